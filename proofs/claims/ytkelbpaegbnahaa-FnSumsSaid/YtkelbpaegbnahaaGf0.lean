import Derived.Test.YtkelbpaegbnahaaGlA
/- GL code of functions. -/
namespace GL
open Go
/- loop.example/g00641/laws.FnTruths -/
def g2_0 : GL.Code := .seq (.seq (.reg 0 [⟨0, some 154, none, .p .mov, [.t 25]⟩,
    ⟨1, some 155, none, .p (.bin .leq), [.t 154, .c (.int .i64 2)]⟩])
   (.cond (.t 155) (.skip)
   (.exit 0)))
   (.seq (.block 1 (.seq (.reg 0 [⟨0, some 158, none, .p .mov, [.t 5]⟩,
    ⟨1, some 26, none, .p .mov, [.t 158]⟩])
   (.seq (.seq (.reg 0 [⟨0, some 159, none, .p .mov, [.t 26]⟩,
    ⟨1, some 160, none, .p (.bin .eql), [.t 159, .c (.int .i64 1)]⟩])
   (.cond (.t 160) (.reg 0 [⟨0, some 161, none, .p .mov, [.t 25]⟩,
    ⟨1, some 26, none, .p .mov, [.t 161]⟩])
   (.skip)))
   (.seq (.reg 0 [⟨0, some 162, none, .p .mov, [.t 6]⟩,
    ⟨1, some 27, none, .p .mov, [.t 162]⟩])
   (.seq (.seq (.reg 0 [⟨0, some 163, none, .p .mov, [.t 27]⟩,
    ⟨1, some 164, none, .p (.bin .eql), [.t 163, .c (.int .i64 1)]⟩])
   (.cond (.t 164) (.reg 0 [⟨0, some 165, none, .p .mov, [.t 25]⟩,
    ⟨1, some 27, none, .p .mov, [.t 165]⟩])
   (.skip)))
   (.seq (.reg 0 [⟨0, some 167, none, .p .mov, [.t 26]⟩,
    ⟨1, some 168, none, .p .mov, [.t 27]⟩,
    ⟨2, some 169, none, .e .call [] [], [.f 4, .t 167, .t 168]⟩,
    ⟨3, some 166, none, .p .mov, [.t 169]⟩,
    ⟨4, some 170, none, .p (.extract 0), [.t 166]⟩,
    ⟨5, some 171, none, .p (.extract 1), [.t 166]⟩,
    ⟨6, some 28, none, .p .mov, [.t 170]⟩,
    ⟨7, some 29, none, .p .mov, [.t 171]⟩])
   (.seq (.reg 0 [⟨0, some 172, none, .p .mov, [.t 29]⟩,
    ⟨1, some 173, none, .p (.un .not), [.t 172]⟩,
    ⟨2, some 174, none, .p .mov, [.t 173]⟩,
    ⟨3, some 175, some (174, false), .p .mov, [.t 7]⟩,
    ⟨4, some 176, some (174, false), .p (.bin .neq), [.t 175, .c (.int .i64 1)]⟩,
    ⟨5, some 177, some (174, false), .p .mov, [.t 176]⟩,
    ⟨6, some 178, some (177, true), .p .mov, [.t 28]⟩,
    ⟨7, some 179, some (177, true), .p .mov, [.t 7]⟩,
    ⟨8, some 180, some (177, true), .p (.bin .neq), [.t 178, .t 179]⟩,
    ⟨9, some 181, some (174, false), .p .pick, [.t 177, .t 180, .c (.bool false)]⟩,
    ⟨10, some 182, none, .p .pick, [.t 174, .c (.bool true), .t 181]⟩])
   (.cond (.t 182) (.seq (.reg 0 [⟨0, some 4, none, .p .mov, [.c (.bool false)]⟩])
   (.ret))
   (.skip)))))))))
   (.reg 0 [⟨0, some 156, none, .p .mov, [.t 25]⟩,
    ⟨1, some 157, none, .p (.bin .add), [.t 156, .c (.int .i64 2)]⟩,
    ⟨2, some 25, none, .p .mov, [.t 157]⟩]))
def g2 : GL.Fn := ⟨.seq (.reg 0 [⟨0, some 4, none, .p .mov, [.c (.bool false)]⟩])
   (.seq (.seq (.reg 0 [⟨0, some 40, none, .p .mov, [.t 0]⟩,
    ⟨1, some 41, none, .p .len, [.t 40]⟩,
    ⟨2, some 42, none, .p .mov, [.t 1]⟩,
    ⟨3, some 43, none, .p .len, [.t 42]⟩,
    ⟨4, some 44, none, .p (.bin .add), [.t 41, .t 43]⟩,
    ⟨5, some 45, none, .p (.bin .gtr), [.t 44, .c (.int .i64 1048576)]⟩])
   (.cond (.t 45) (.seq (.reg 0 [⟨0, some 4, none, .p .mov, [.c (.bool true)]⟩])
   (.ret))
   (.skip)))
   (.seq (.reg 0 [⟨0, some 47, none, .p .mov, [.t 0]⟩,
    ⟨1, some 48, none, .e .call [] [], [.f 3, .t 47]⟩,
    ⟨2, some 46, none, .p .mov, [.t 48]⟩,
    ⟨3, some 49, none, .p (.extract 0), [.t 46]⟩,
    ⟨4, some 50, none, .p (.extract 1), [.t 46]⟩,
    ⟨5, some 5, none, .p .mov, [.t 49]⟩,
    ⟨6, some 6, none, .p .mov, [.t 50]⟩])
   (.seq (.reg 0 [⟨0, some 52, none, .p .mov, [.t 5]⟩,
    ⟨1, some 53, none, .p .mov, [.t 6]⟩,
    ⟨2, some 54, none, .e .call [] [], [.f 4, .t 52, .t 53]⟩,
    ⟨3, some 51, none, .p .mov, [.t 54]⟩,
    ⟨4, some 55, none, .p (.extract 0), [.t 51]⟩,
    ⟨5, some 56, none, .p (.extract 1), [.t 51]⟩,
    ⟨6, some 7, none, .p .mov, [.t 55]⟩,
    ⟨7, some 8, none, .p .mov, [.t 56]⟩])
   (.seq (.reg 0 [⟨0, some 58, none, .p .mov, [.t 5]⟩,
    ⟨1, some 59, none, .p .mov, [.t 6]⟩,
    ⟨2, some 60, none, .e .call [] [], [.f 5, .t 58, .t 59]⟩,
    ⟨3, some 57, none, .p .mov, [.t 60]⟩,
    ⟨4, some 61, none, .p (.extract 0), [.t 57]⟩,
    ⟨5, some 62, none, .p (.extract 1), [.t 57]⟩,
    ⟨6, some 9, none, .p .mov, [.t 61]⟩,
    ⟨7, some 10, none, .p .mov, [.t 62]⟩])
   (.seq (.reg 0 [⟨0, some 64, none, .p .mov, [.t 5]⟩,
    ⟨1, some 65, none, .p .mov, [.t 6]⟩,
    ⟨2, some 66, none, .e .call [] [], [.f 6, .t 64, .t 65]⟩,
    ⟨3, some 63, none, .p .mov, [.t 66]⟩,
    ⟨4, some 67, none, .p (.extract 0), [.t 63]⟩,
    ⟨5, some 68, none, .p (.extract 1), [.t 63]⟩,
    ⟨6, some 11, none, .p .mov, [.t 67]⟩,
    ⟨7, some 12, none, .p .mov, [.t 68]⟩])
   (.seq (.reg 0 [⟨0, some 70, none, .p .mov, [.t 5]⟩,
    ⟨1, some 71, none, .p .mov, [.t 6]⟩,
    ⟨2, some 72, none, .e .call [] [], [.f 7, .t 70, .t 71]⟩,
    ⟨3, some 69, none, .p .mov, [.t 72]⟩,
    ⟨4, some 73, none, .p (.extract 0), [.t 69]⟩,
    ⟨5, some 74, none, .p (.extract 1), [.t 69]⟩,
    ⟨6, some 13, none, .p .mov, [.t 73]⟩,
    ⟨7, some 14, none, .p .mov, [.t 74]⟩])
   (.seq (.seq (.reg 0 [⟨0, some 75, none, .p .mov, [.t 8]⟩,
    ⟨1, some 76, none, .p .mov, [.t 10]⟩,
    ⟨2, some 77, none, .p (.eqB true), [.t 75, .t 76]⟩,
    ⟨3, some 78, none, .p .mov, [.t 77]⟩,
    ⟨4, some 79, some (78, false), .p .mov, [.t 7]⟩,
    ⟨5, some 80, some (78, false), .p .mov, [.t 9]⟩,
    ⟨6, some 81, some (78, false), .p (.bin .neq), [.t 79, .t 80]⟩,
    ⟨7, some 82, none, .p .pick, [.t 78, .c (.bool true), .t 81]⟩,
    ⟨8, some 83, none, .p .mov, [.t 82]⟩,
    ⟨9, some 84, some (83, false), .p .mov, [.t 12]⟩,
    ⟨10, some 85, some (83, false), .p .mov, [.t 14]⟩,
    ⟨11, some 86, some (83, false), .p (.eqB true), [.t 84, .t 85]⟩,
    ⟨12, some 87, none, .p .pick, [.t 83, .c (.bool true), .t 86]⟩,
    ⟨13, some 88, none, .p .mov, [.t 87]⟩,
    ⟨14, some 89, some (88, false), .p .mov, [.t 11]⟩,
    ⟨15, some 90, some (88, false), .p .mov, [.t 13]⟩,
    ⟨16, some 91, some (88, false), .p (.bin .neq), [.t 89, .t 90]⟩,
    ⟨17, some 92, none, .p .pick, [.t 88, .c (.bool true), .t 91]⟩])
   (.cond (.t 92) (.seq (.reg 0 [⟨0, some 4, none, .p .mov, [.c (.bool false)]⟩])
   (.ret))
   (.skip)))
   (.seq (.seq (.reg 0 [⟨0, some 93, none, .p .mov, [.t 8]⟩])
   (.cond (.t 93) (.seq (.reg 0 [⟨0, some 95, none, .p .mov, [.t 5]⟩,
    ⟨1, some 96, none, .e .call [] [], [.f 8, .t 95]⟩,
    ⟨2, some 94, none, .p .mov, [.t 96]⟩,
    ⟨3, some 97, none, .p (.extract 0), [.t 94]⟩,
    ⟨4, some 98, none, .p (.extract 1), [.t 94]⟩,
    ⟨5, some 15, none, .p .mov, [.t 97]⟩,
    ⟨6, some 16, none, .p .mov, [.t 98]⟩])
   (.seq (.reg 0 [⟨0, some 100, none, .p .mov, [.t 6]⟩,
    ⟨1, some 101, none, .e .call [] [], [.f 8, .t 100]⟩,
    ⟨2, some 99, none, .p .mov, [.t 101]⟩,
    ⟨3, some 102, none, .p (.extract 0), [.t 99]⟩,
    ⟨4, some 103, none, .p (.extract 1), [.t 99]⟩,
    ⟨5, some 17, none, .p .mov, [.t 102]⟩,
    ⟨6, some 18, none, .p .mov, [.t 103]⟩])
   (.seq (.reg 0 [⟨0, some 105, none, .p .mov, [.t 15]⟩,
    ⟨1, some 106, none, .p .mov, [.t 17]⟩,
    ⟨2, some 107, none, .e .call [] [], [.f 6, .t 105, .t 106]⟩,
    ⟨3, some 104, none, .p .mov, [.t 107]⟩,
    ⟨4, some 108, none, .p (.extract 0), [.t 104]⟩,
    ⟨5, some 109, none, .p (.extract 1), [.t 104]⟩,
    ⟨6, some 19, none, .p .mov, [.t 108]⟩,
    ⟨7, some 20, none, .p .mov, [.t 109]⟩])
   (.seq (.reg 0 [⟨0, some 111, none, .p .mov, [.t 7]⟩,
    ⟨1, some 112, none, .e .call [] [], [.f 8, .t 111]⟩,
    ⟨2, some 110, none, .p .mov, [.t 112]⟩,
    ⟨3, some 113, none, .p (.extract 0), [.t 110]⟩,
    ⟨4, some 114, none, .p (.extract 1), [.t 110]⟩,
    ⟨5, some 21, none, .p .mov, [.t 113]⟩,
    ⟨6, some 22, none, .p .mov, [.t 114]⟩])
   (.seq (.reg 0 [⟨0, some 116, none, .p .mov, [.t 5]⟩,
    ⟨1, some 117, none, .p .mov, [.t 6]⟩,
    ⟨2, some 118, none, .e (.new (.lit 1)) [] [], [.t 116, .t 117]⟩,
    ⟨3, some 119, none, .e .call [] [], [.f 9, .t 118]⟩,
    ⟨4, some 115, none, .p .mov, [.t 119]⟩,
    ⟨5, some 120, none, .p (.extract 0), [.t 115]⟩,
    ⟨6, some 121, none, .p (.extract 1), [.t 115]⟩,
    ⟨7, some 23, none, .p .mov, [.t 120]⟩,
    ⟨8, some 24, none, .p .mov, [.t 121]⟩])
   (.seq (.seq (.reg 0 [⟨0, some 122, none, .p .mov, [.t 12]⟩,
    ⟨1, some 123, none, .p (.un .not), [.t 122]⟩,
    ⟨2, some 124, none, .p .mov, [.t 123]⟩,
    ⟨3, some 125, some (124, false), .p .mov, [.t 16]⟩,
    ⟨4, some 126, some (124, false), .p (.un .not), [.t 125]⟩,
    ⟨5, some 127, none, .p .pick, [.t 124, .c (.bool true), .t 126]⟩,
    ⟨6, some 128, none, .p .mov, [.t 127]⟩,
    ⟨7, some 129, some (128, false), .p .mov, [.t 18]⟩,
    ⟨8, some 130, some (128, false), .p (.un .not), [.t 129]⟩,
    ⟨9, some 131, none, .p .pick, [.t 128, .c (.bool true), .t 130]⟩,
    ⟨10, some 132, none, .p .mov, [.t 131]⟩,
    ⟨11, some 133, some (132, false), .p .mov, [.t 20]⟩,
    ⟨12, some 134, some (132, false), .p (.un .not), [.t 133]⟩,
    ⟨13, some 135, none, .p .pick, [.t 132, .c (.bool true), .t 134]⟩,
    ⟨14, some 136, none, .p .mov, [.t 135]⟩,
    ⟨15, some 137, some (136, false), .p .mov, [.t 22]⟩,
    ⟨16, some 138, some (136, false), .p (.un .not), [.t 137]⟩,
    ⟨17, some 139, none, .p .pick, [.t 136, .c (.bool true), .t 138]⟩,
    ⟨18, some 140, none, .p .mov, [.t 139]⟩,
    ⟨19, some 141, some (140, false), .p .mov, [.t 19]⟩,
    ⟨20, some 142, some (140, false), .p .mov, [.t 21]⟩,
    ⟨21, some 143, some (140, false), .p (.bin .neq), [.t 141, .t 142]⟩,
    ⟨22, some 144, none, .p .pick, [.t 140, .c (.bool true), .t 143]⟩,
    ⟨23, some 145, none, .p .mov, [.t 144]⟩,
    ⟨24, some 146, some (145, false), .p .mov, [.t 24]⟩,
    ⟨25, some 147, some (145, false), .p (.un .not), [.t 146]⟩,
    ⟨26, some 148, none, .p .pick, [.t 145, .c (.bool true), .t 147]⟩,
    ⟨27, some 149, none, .p .mov, [.t 148]⟩,
    ⟨28, some 150, some (149, false), .p .mov, [.t 23]⟩,
    ⟨29, some 151, some (149, false), .p .mov, [.t 7]⟩,
    ⟨30, some 152, some (149, false), .p (.bin .neq), [.t 150, .t 151]⟩,
    ⟨31, some 153, none, .p .pick, [.t 149, .c (.bool true), .t 152]⟩])
   (.cond (.t 153) (.seq (.reg 0 [⟨0, some 4, none, .p .mov, [.c (.bool false)]⟩])
   (.ret))
   (.skip)))
   (.seq (.reg 0 [⟨0, some 25, none, .p .mov, [.c (.int .i64 0)]⟩])
   (.block 0 (.loop g2_0)))))))))
   (.skip)))
   (.seq (.reg 0 [⟨0, some 183, none, .p .mov, [.t 1]⟩,
    ⟨1, some 184, none, .e .call [] [], [.f 10, .t 183]⟩,
    ⟨2, some 30, none, .p .mov, [.t 184]⟩])
   (.seq (.reg 0 [⟨0, some 186, none, .p .mov, [.t 30]⟩,
    ⟨1, some 187, none, .e .call [] [], [.f 8, .t 186]⟩,
    ⟨2, some 185, none, .p .mov, [.t 187]⟩,
    ⟨3, some 188, none, .p (.extract 0), [.t 185]⟩,
    ⟨4, some 189, none, .p (.extract 1), [.t 185]⟩,
    ⟨5, some 31, none, .p .mov, [.t 188]⟩,
    ⟨6, some 32, none, .p .mov, [.t 189]⟩])
   (.seq (.reg 0 [⟨0, some 191, none, .p .mov, [.t 30]⟩,
    ⟨1, some 192, none, .e .call [] [], [.f 11, .t 191]⟩,
    ⟨2, some 190, none, .p .mov, [.t 192]⟩,
    ⟨3, some 193, none, .p (.extract 0), [.t 190]⟩,
    ⟨4, some 194, none, .p (.extract 1), [.t 190]⟩,
    ⟨5, some 33, none, .p .mov, [.t 193]⟩,
    ⟨6, some 34, none, .p .mov, [.t 194]⟩])
   (.seq (.reg 0 [⟨0, some 195, none, .p .mov, [.t 1]⟩,
    ⟨1, some 196, none, .e .call [] [], [.f 12, .t 195]⟩,
    ⟨2, some 35, none, .p .mov, [.t 196]⟩])
   (.seq (.reg 0 [⟨0, some 198, none, .p .mov, [.t 35]⟩,
    ⟨1, some 199, none, .e .call [] [], [.f 9, .t 198]⟩,
    ⟨2, some 197, none, .p .mov, [.t 199]⟩,
    ⟨3, some 200, none, .p (.extract 0), [.t 197]⟩,
    ⟨4, some 201, none, .p (.extract 1), [.t 197]⟩,
    ⟨5, some 36, none, .p .mov, [.t 200]⟩,
    ⟨6, some 37, none, .p .mov, [.t 201]⟩])
   (.seq (.reg 0 [⟨0, some 203, none, .p .mov, [.t 35]⟩,
    ⟨1, some 204, none, .e .call [] [], [.f 13, .t 203]⟩,
    ⟨2, some 202, none, .p .mov, [.t 204]⟩,
    ⟨3, some 205, none, .p (.extract 0), [.t 202]⟩,
    ⟨4, some 206, none, .p (.extract 1), [.t 202]⟩,
    ⟨5, some 38, none, .p .mov, [.t 205]⟩,
    ⟨6, some 39, none, .p .mov, [.t 206]⟩])
   (.seq (.reg 0 [⟨0, some 207, none, .p .mov, [.t 32]⟩,
    ⟨1, some 208, none, .p .mov, [.t 34]⟩,
    ⟨2, some 209, none, .p (.eqB false), [.t 207, .t 208]⟩,
    ⟨3, some 210, none, .p .mov, [.t 209]⟩,
    ⟨4, some 211, some (210, true), .p .mov, [.t 31]⟩,
    ⟨5, some 212, some (210, true), .p .mov, [.t 33]⟩,
    ⟨6, some 213, some (210, true), .p (.bin .eql), [.t 211, .t 212]⟩,
    ⟨7, some 214, none, .p .pick, [.t 210, .t 213, .c (.bool false)]⟩,
    ⟨8, some 215, none, .p .mov, [.t 214]⟩,
    ⟨9, some 216, some (215, true), .p .mov, [.t 37]⟩,
    ⟨10, some 217, some (215, true), .p .mov, [.t 39]⟩,
    ⟨11, some 218, some (215, true), .p (.eqB false), [.t 216, .t 217]⟩,
    ⟨12, some 219, none, .p .pick, [.t 215, .t 218, .c (.bool false)]⟩,
    ⟨13, some 220, none, .p .mov, [.t 219]⟩,
    ⟨14, some 221, some (220, true), .p .mov, [.t 36]⟩,
    ⟨15, some 222, some (220, true), .p .mov, [.t 38]⟩,
    ⟨16, some 223, some (220, true), .p (.bin .eql), [.t 221, .t 222]⟩,
    ⟨17, some 224, none, .p .pick, [.t 220, .t 223, .c (.bool false)]⟩,
    ⟨18, some 4, none, .p .mov, [.t 224]⟩])
   (.ret)))))))))))))))),
  [.tmp 4]⟩
/- loop.example/g00641/laws.FnCompared -/
def g14_0 : GL.Code := .seq (.reg 0 [⟨0, some 96, none, .p (.bin .lss), [.t 95, .t 94]⟩])
   (.seq (.cond (.t 96) (.skip)
   (.exit 2))
   (.seq (.block 3 (.seq (.reg 0 [⟨0, some 97, none, .p (.idx 1), [.t 93, .t 95]⟩,
    ⟨1, some 98, none, .r (.load false 1) false, [.t 97]⟩,
    ⟨2, some 19, none, .p .mov, [.t 98]⟩])
   (.seq (.reg 0 [⟨0, some 100, none, .p .mov, [.t 5]⟩,
    ⟨1, some 101, none, .p .mov, [.t 17]⟩,
    ⟨2, some 102, none, .p (.build [.bool false, .int .i64 0] [(1, 1)]), [.t 101]⟩,
    ⟨3, some 103, none, .p .mov, [.t 19]⟩,
    ⟨4, some 104, none, .p (.build [.bool false, .int .i64 0] [(1, 1)]), [.t 103]⟩,
    ⟨5, some 105, none, .e .call [] [], [.f 16, .t 100, .t 102, .t 104]⟩,
    ⟨6, some 99, none, .p .mov, [.t 105]⟩,
    ⟨7, some 106, none, .p (.extract 0), [.t 99]⟩,
    ⟨8, some 107, none, .p (.extract 1), [.t 99]⟩,
    ⟨9, some 20, none, .p .mov, [.t 106]⟩,
    ⟨10, some 21, none, .p .mov, [.t 107]⟩])
   (.seq (.reg 0 [⟨0, some 108, none, .p .mov, [.t 21]⟩,
    ⟨1, some 109, none, .p (.un .not), [.t 108]⟩,
    ⟨2, some 110, none, .p .mov, [.t 109]⟩,
    ⟨3, some 111, some (110, false), .p .mov, [.t 20]⟩,
    ⟨4, some 112, some (110, false), .p (.bin .eql), [.t 111, .c (.int .i64 1)]⟩,
    ⟨5, some 113, none, .p .pick, [.t 110, .c (.bool true), .t 112]⟩,
    ⟨6, some 114, none, .p .mov, [.t 113]⟩,
    ⟨7, some 115, some (114, false), .p .mov, [.t 8]⟩,
    ⟨8, some 116, some (114, false), .p (.bin .neq), [.t 115, .c (.int .i64 1)]⟩,
    ⟨9, some 117, some (114, false), .p .mov, [.t 116]⟩,
    ⟨10, some 118, some (117, true), .p .mov, [.t 20]⟩,
    ⟨11, some 119, some (117, true), .p .mov, [.t 8]⟩,
    ⟨12, some 120, some (117, true), .p (.bin .neq), [.t 118, .t 119]⟩,
    ⟨13, some 121, some (114, false), .p .pick, [.t 117, .t 120, .c (.bool false)]⟩,
    ⟨14, some 122, none, .p .pick, [.t 114, .c (.bool true), .t 121]⟩])
   (.cond (.t 122) (.seq (.reg 0 [⟨0, some 4, none, .p .mov, [.c (.bool false)]⟩])
   (.ret))
   (.skip))))))
   (.reg 0 [⟨0, some 123, none, .p (.bin .add), [.t 95, .c (.int .i64 1)]⟩,
    ⟨1, some 95, none, .p .mov, [.t 123]⟩])))
def g14_1 : GL.Code := .seq (.reg 0 [⟨0, some 90, none, .p (.bin .lss), [.t 89, .t 88]⟩])
   (.seq (.cond (.t 90) (.skip)
   (.exit 0))
   (.seq (.block 1 (.seq (.reg 0 [⟨0, some 91, none, .p (.idx 1), [.t 87, .t 89]⟩,
    ⟨1, some 92, none, .r (.load false 1) false, [.t 91]⟩,
    ⟨2, some 17, none, .p .mov, [.t 92]⟩])
   (.seq (.reg 0 [⟨0, some 93, none, .p .mov, [.t 14]⟩,
    ⟨1, some 94, none, .p .len, [.t 93]⟩,
    ⟨2, some 95, none, .p .mov, [.c (.int .i64 0)]⟩])
   (.block 2 (.loop g14_0)))))
   (.reg 0 [⟨0, some 124, none, .p (.bin .add), [.t 89, .c (.int .i64 1)]⟩,
    ⟨1, some 89, none, .p .mov, [.t 124]⟩])))
def g14 : GL.Fn := ⟨.seq (.reg 0 [⟨0, some 4, none, .p .mov, [.c (.bool false)]⟩])
   (.seq (.seq (.reg 0 [⟨0, some 34, none, .p .mov, [.t 0]⟩,
    ⟨1, some 35, none, .p .len, [.t 34]⟩,
    ⟨2, some 36, none, .p .mov, [.t 1]⟩,
    ⟨3, some 37, none, .p .len, [.t 36]⟩,
    ⟨4, some 38, none, .p (.bin .add), [.t 35, .t 37]⟩,
    ⟨5, some 39, none, .p (.bin .gtr), [.t 38, .c (.int .i64 1048576)]⟩])
   (.cond (.t 39) (.seq (.reg 0 [⟨0, some 4, none, .p .mov, [.c (.bool true)]⟩])
   (.ret))
   (.skip)))
   (.seq (.reg 0 [⟨0, some 41, none, .p .mov, [.t 0]⟩,
    ⟨1, some 42, none, .e .call [] [], [.f 15, .t 41]⟩,
    ⟨2, some 40, none, .p .mov, [.t 42]⟩,
    ⟨3, some 43, none, .p (.extract 0), [.t 40]⟩,
    ⟨4, some 44, none, .p (.extract 1), [.t 40]⟩,
    ⟨5, some 45, none, .p (.extract 2), [.t 40]⟩,
    ⟨6, some 6, none, .l (.alloc 6 [.bool false, .int .i64 0]), []⟩,
    ⟨7, some 7, none, .l (.alloc 7 [.bool false, .int .i64 0]), []⟩,
    ⟨8, some 5, none, .p .mov, [.t 43]⟩,
    ⟨9, none, none, .l (.store 6 2), [.t 6, .t 44]⟩,
    ⟨10, none, none, .l (.store 7 2), [.t 7, .t 45]⟩])
   (.seq (.reg 0 [⟨0, some 47, none, .p .mov, [.t 5]⟩,
    ⟨1, some 48, none, .l (.load 6 true 2), [.t 6]⟩,
    ⟨2, some 49, none, .l (.load 7 true 2), [.t 7]⟩,
    ⟨3, some 50, none, .e .call [] [], [.f 16, .t 47, .t 48, .t 49]⟩,
    ⟨4, some 46, none, .p .mov, [.t 50]⟩,
    ⟨5, some 51, none, .p (.extract 0), [.t 46]⟩,
    ⟨6, some 52, none, .p (.extract 1), [.t 46]⟩,
    ⟨7, some 8, none, .p .mov, [.t 51]⟩,
    ⟨8, some 9, none, .p .mov, [.t 52]⟩])
   (.seq (.reg 0 [⟨0, some 54, none, .p .mov, [.t 5]⟩,
    ⟨1, some 55, none, .l (.load 6 true 2), [.t 6]⟩,
    ⟨2, some 56, none, .l (.load 7 true 2), [.t 7]⟩,
    ⟨3, some 57, none, .e .call [] [], [.f 17, .t 54, .t 55, .t 56]⟩,
    ⟨4, some 53, none, .p .mov, [.t 57]⟩,
    ⟨5, some 58, none, .p (.extract 0), [.t 53]⟩,
    ⟨6, some 59, none, .p (.extract 1), [.t 53]⟩,
    ⟨7, some 10, none, .p .mov, [.t 58]⟩,
    ⟨8, some 11, none, .p .mov, [.t 59]⟩])
   (.seq (.seq (.reg 0 [⟨0, some 60, none, .p .mov, [.t 9]⟩,
    ⟨1, some 61, none, .p .mov, [.t 11]⟩,
    ⟨2, some 62, none, .p (.eqB true), [.t 60, .t 61]⟩,
    ⟨3, some 63, none, .p .mov, [.t 62]⟩,
    ⟨4, some 64, some (63, false), .p .mov, [.t 8]⟩,
    ⟨5, some 65, some (63, false), .p .mov, [.t 10]⟩,
    ⟨6, some 66, some (63, false), .p (.bin .neq), [.t 64, .t 65]⟩,
    ⟨7, some 67, none, .p .pick, [.t 63, .c (.bool true), .t 66]⟩])
   (.cond (.t 67) (.seq (.reg 0 [⟨0, some 4, none, .p .mov, [.c (.bool false)]⟩])
   (.ret))
   (.skip)))
   (.seq (.seq (.reg 0 [⟨0, some 68, none, .p .mov, [.t 9]⟩])
   (.cond (.t 68) (.seq (.reg 0 [⟨0, some 70, none, .l (.load 6 true 2), [.t 6]⟩,
    ⟨1, some 71, none, .e (.new (.lit 1)) [] [], [.c (.int .i64 (-1)), .c (.int .i64 0), .c (.int .i64 1), .c (.int .i64 2), .c (.int .i64 3)]⟩,
    ⟨2, some 72, none, .e .call [] [], [.f 18, .t 70, .t 71]⟩,
    ⟨3, some 69, none, .p .mov, [.t 72]⟩,
    ⟨4, some 73, none, .p (.extract 0), [.t 69]⟩,
    ⟨5, some 74, none, .p (.extract 1), [.t 69]⟩,
    ⟨6, some 12, none, .p .mov, [.t 73]⟩,
    ⟨7, some 13, none, .p .mov, [.t 74]⟩])
   (.seq (.reg 0 [⟨0, some 76, none, .l (.load 7 true 2), [.t 7]⟩,
    ⟨1, some 77, none, .e (.new (.lit 1)) [] [], [.c (.int .i64 2), .c (.int .i64 (-1)), .c (.int .i64 3), .c (.int .i64 0), .c (.int .i64 1)]⟩,
    ⟨2, some 78, none, .e .call [] [], [.f 18, .t 76, .t 77]⟩,
    ⟨3, some 75, none, .p .mov, [.t 78]⟩,
    ⟨4, some 79, none, .p (.extract 0), [.t 75]⟩,
    ⟨5, some 80, none, .p (.extract 1), [.t 75]⟩,
    ⟨6, some 14, none, .p .mov, [.t 79]⟩,
    ⟨7, some 15, none, .p .mov, [.t 80]⟩])
   (.seq (.seq (.reg 0 [⟨0, some 81, none, .p .mov, [.t 13]⟩,
    ⟨1, some 82, none, .p (.un .not), [.t 81]⟩,
    ⟨2, some 83, none, .p .mov, [.t 82]⟩,
    ⟨3, some 84, some (83, false), .p .mov, [.t 15]⟩,
    ⟨4, some 85, some (83, false), .p (.un .not), [.t 84]⟩,
    ⟨5, some 86, none, .p .pick, [.t 83, .c (.bool true), .t 85]⟩])
   (.cond (.t 86) (.seq (.reg 0 [⟨0, some 4, none, .p .mov, [.c (.bool false)]⟩])
   (.ret))
   (.skip)))
   (.seq (.seq (.reg 0 [⟨0, some 87, none, .p .mov, [.t 12]⟩,
    ⟨1, some 88, none, .p .len, [.t 87]⟩,
    ⟨2, some 89, none, .p .mov, [.c (.int .i64 0)]⟩])
   (.block 0 (.loop g14_1)))
   (.seq (.reg 0 [⟨0, some 125, none, .p .mov, [.t 8]⟩,
    ⟨1, some 126, none, .p (.bin .eql), [.t 125, .c (.int .i64 1)]⟩,
    ⟨2, some 127, none, .p (.faddr 0), [.t 6]⟩,
    ⟨3, some 128, none, .l (.load 6 false 1), [.t 127]⟩,
    ⟨4, some 129, none, .p .mov, [.t 128]⟩,
    ⟨5, some 130, some (129, false), .p (.faddr 0), [.t 7]⟩,
    ⟨6, some 131, some (129, false), .l (.load 7 false 1), [.t 130]⟩,
    ⟨7, some 132, none, .p .pick, [.t 129, .c (.bool true), .t 131]⟩,
    ⟨8, some 133, none, .p (.eqB true), [.t 126, .t 132]⟩])
   (.cond (.t 133) (.seq (.reg 0 [⟨0, some 4, none, .p .mov, [.c (.bool false)]⟩])
   (.ret))
   (.skip)))))))
   (.skip)))
   (.seq (.reg 0 [⟨0, some 135, none, .p .mov, [.t 1]⟩,
    ⟨1, some 136, none, .e .call [] [], [.f 19, .t 135]⟩,
    ⟨2, some 134, none, .p .mov, [.t 136]⟩,
    ⟨3, some 137, none, .p (.extract 0), [.t 134]⟩,
    ⟨4, some 138, none, .p (.extract 1), [.t 134]⟩,
    ⟨5, some 22, none, .l (.alloc 22 [.bool false, .int .i64 0]), []⟩,
    ⟨6, some 23, none, .l (.alloc 23 [.bool false, .int .i64 0]), []⟩,
    ⟨7, none, none, .l (.store 22 2), [.t 22, .t 137]⟩,
    ⟨8, none, none, .l (.store 23 2), [.t 23, .t 138]⟩])
   (.seq (.reg 0 [⟨0, some 140, none, .l (.load 22 true 2), [.t 22]⟩,
    ⟨1, some 141, none, .l (.load 23 true 2), [.t 23]⟩,
    ⟨2, some 142, none, .e .call [] [], [.f 20, .t 140, .t 141]⟩,
    ⟨3, some 139, none, .p .mov, [.t 142]⟩,
    ⟨4, some 143, none, .p (.extract 0), [.t 139]⟩,
    ⟨5, some 144, none, .p (.extract 1), [.t 139]⟩,
    ⟨6, some 24, none, .p .mov, [.t 143]⟩,
    ⟨7, some 25, none, .p .mov, [.t 144]⟩])
   (.seq (.reg 0 [⟨0, some 146, none, .l (.load 22 true 2), [.t 22]⟩,
    ⟨1, some 147, none, .l (.load 23 true 2), [.t 23]⟩,
    ⟨2, some 148, none, .e .call [] [], [.f 21, .t 146, .t 147]⟩,
    ⟨3, some 145, none, .p .mov, [.t 148]⟩,
    ⟨4, some 149, none, .p (.extract 0), [.t 145]⟩,
    ⟨5, some 150, none, .p (.extract 1), [.t 145]⟩,
    ⟨6, some 26, none, .p .mov, [.t 149]⟩,
    ⟨7, some 27, none, .p .mov, [.t 150]⟩])
   (.seq (.reg 0 [⟨0, some 152, none, .p .mov, [.t 1]⟩,
    ⟨1, some 153, none, .e .call [] [], [.f 22, .t 152]⟩,
    ⟨2, some 151, none, .p .mov, [.t 153]⟩,
    ⟨3, some 154, none, .p (.extract 0), [.t 151]⟩,
    ⟨4, some 155, none, .p (.extract 1), [.t 151]⟩,
    ⟨5, some 28, none, .l (.alloc 28 [.bool false, .int .i64 0]), []⟩,
    ⟨6, none, none, .l (.store 28 2), [.t 28, .t 154]⟩,
    ⟨7, some 29, none, .p .mov, [.t 155]⟩])
   (.seq (.reg 0 [⟨0, some 157, none, .l (.load 28 true 2), [.t 28]⟩,
    ⟨1, some 158, none, .p .mov, [.t 29]⟩,
    ⟨2, some 159, none, .e .call [] [], [.f 18, .t 157, .t 158]⟩,
    ⟨3, some 156, none, .p .mov, [.t 159]⟩,
    ⟨4, some 160, none, .p (.extract 0), [.t 156]⟩,
    ⟨5, some 161, none, .p (.extract 1), [.t 156]⟩,
    ⟨6, some 30, none, .p .mov, [.t 160]⟩,
    ⟨7, some 31, none, .p .mov, [.t 161]⟩])
   (.seq (.reg 0 [⟨0, some 163, none, .l (.load 28 true 2), [.t 28]⟩,
    ⟨1, some 164, none, .p .mov, [.t 29]⟩,
    ⟨2, some 165, none, .e .call [] [], [.f 23, .t 163, .t 164]⟩,
    ⟨3, some 162, none, .p .mov, [.t 165]⟩,
    ⟨4, some 166, none, .p (.extract 0), [.t 162]⟩,
    ⟨5, some 167, none, .p (.extract 1), [.t 162]⟩,
    ⟨6, some 32, none, .p .mov, [.t 166]⟩,
    ⟨7, some 33, none, .p .mov, [.t 167]⟩])
   (.seq (.reg 0 [⟨0, some 168, none, .p .mov, [.t 25]⟩,
    ⟨1, some 169, none, .p .mov, [.t 27]⟩,
    ⟨2, some 170, none, .p (.eqB false), [.t 168, .t 169]⟩,
    ⟨3, some 171, none, .p .mov, [.t 170]⟩,
    ⟨4, some 172, some (171, true), .p .mov, [.t 24]⟩,
    ⟨5, some 173, some (171, true), .p .mov, [.t 26]⟩,
    ⟨6, some 174, some (171, true), .p (.eqB false), [.t 172, .t 173]⟩,
    ⟨7, some 175, none, .p .pick, [.t 171, .t 174, .c (.bool false)]⟩,
    ⟨8, some 176, none, .p .mov, [.t 175]⟩,
    ⟨9, some 177, some (176, true), .p .mov, [.t 31]⟩,
    ⟨10, some 178, some (176, true), .p .mov, [.t 33]⟩,
    ⟨11, some 179, some (176, true), .p (.eqB false), [.t 177, .t 178]⟩,
    ⟨12, some 180, none, .p .pick, [.t 176, .t 179, .c (.bool false)]⟩,
    ⟨13, some 181, none, .p .mov, [.t 180]⟩,
    ⟨14, some 182, some (181, true), .p .mov, [.t 30]⟩,
    ⟨15, some 183, some (181, true), .p .mov, [.t 32]⟩,
    ⟨16, some 184, some (181, true), .e .call [] [], [.f 24, .t 182, .t 183]⟩,
    ⟨17, some 185, none, .p .pick, [.t 181, .t 184, .c (.bool false)]⟩,
    ⟨18, some 186, none, .p .mov, [.t 185]⟩,
    ⟨19, some 187, some (186, true), .l (.load 22 true 2), [.t 22]⟩,
    ⟨20, some 188, some (186, true), .e .call [] [], [.f 25, .t 187]⟩,
    ⟨21, some 189, some (186, true), .l (.load 22 true 2), [.t 22]⟩,
    ⟨22, some 190, some (186, true), .e .call [] [], [.f 26, .t 189]⟩,
    ⟨23, some 191, some (186, true), .p (.eqB false), [.t 188, .t 190]⟩,
    ⟨24, some 192, none, .p .pick, [.t 186, .t 191, .c (.bool false)]⟩,
    ⟨25, some 4, none, .p .mov, [.t 192]⟩])
   (.ret)))))))))))))),
  [.tmp 4]⟩
/- loop.example/g00641/laws.FnSums -/
def g27 : GL.Fn := ⟨.seq (.reg 0 [⟨0, some 4, none, .p .mov, [.c (.bool false)]⟩])
   (.seq (.seq (.reg 0 [⟨0, some 32, none, .p .mov, [.t 0]⟩,
    ⟨1, some 33, none, .p .len, [.t 32]⟩,
    ⟨2, some 34, none, .p .mov, [.t 1]⟩,
    ⟨3, some 35, none, .p .len, [.t 34]⟩,
    ⟨4, some 36, none, .p (.bin .add), [.t 33, .t 35]⟩,
    ⟨5, some 37, none, .p (.bin .gtr), [.t 36, .c (.int .i64 1048576)]⟩])
   (.cond (.t 37) (.seq (.reg 0 [⟨0, some 4, none, .p .mov, [.c (.bool true)]⟩])
   (.ret))
   (.skip)))
   (.seq (.reg 0 [⟨0, some 38, none, .p .mov, [.t 0]⟩,
    ⟨1, some 39, none, .e .call [] [], [.f 28, .t 38]⟩,
    ⟨2, some 5, none, .p .mov, [.t 39]⟩])
   (.seq (.reg 0 [⟨0, some 41, none, .p .mov, [.t 5]⟩,
    ⟨1, some 42, none, .e .call [] [], [.f 29, .t 41]⟩,
    ⟨2, some 40, none, .p .mov, [.t 42]⟩,
    ⟨3, some 43, none, .p (.extract 0), [.t 40]⟩,
    ⟨4, some 44, none, .p (.extract 1), [.t 40]⟩,
    ⟨5, some 6, none, .l (.alloc 6 [.int .i64 0, .int .i64 0, .int .i64 0, .bool false, .int .i64 0, .bool false, .int .i64 0]), []⟩,
    ⟨6, none, none, .l (.store 6 7), [.t 6, .t 43]⟩,
    ⟨7, some 7, none, .p .mov, [.t 44]⟩])
   (.seq (.reg 0 [⟨0, some 46, none, .p .mov, [.t 5]⟩,
    ⟨1, some 47, none, .e .call [] [], [.f 30, .t 46]⟩,
    ⟨2, some 45, none, .p .mov, [.t 47]⟩,
    ⟨3, some 48, none, .p (.extract 0), [.t 45]⟩,
    ⟨4, some 49, none, .p (.extract 1), [.t 45]⟩,
    ⟨5, some 8, none, .l (.alloc 8 [.int .i64 0, .int .i64 0, .int .i64 0, .bool false, .int .i64 0, .bool false, .int .i64 0]), []⟩,
    ⟨6, none, none, .l (.store 8 7), [.t 8, .t 48]⟩,
    ⟨7, some 9, none, .p .mov, [.t 49]⟩])
   (.seq (.seq (.reg 0 [⟨0, some 50, none, .p .mov, [.t 7]⟩,
    ⟨1, some 51, none, .p .mov, [.t 9]⟩,
    ⟨2, some 52, none, .p (.eqB true), [.t 50, .t 51]⟩,
    ⟨3, some 53, none, .p .mov, [.t 52]⟩,
    ⟨4, some 54, some (53, false), .l (.load 6 true 7), [.t 6]⟩,
    ⟨5, some 55, some (53, false), .l (.load 8 true 7), [.t 8]⟩,
    ⟨6, some 56, some (53, false), .p (.eqAgg true [some .i64, some .i64, some .i64, none, some .i64, none, some .i64]), [.t 54, .t 55]⟩,
    ⟨7, some 57, none, .p .pick, [.t 53, .c (.bool true), .t 56]⟩])
   (.cond (.t 57) (.seq (.reg 0 [⟨0, some 4, none, .p .mov, [.c (.bool false)]⟩])
   (.ret))
   (.skip)))
   (.seq (.seq (.reg 0 [⟨0, some 58, none, .p .mov, [.t 7]⟩])
   (.cond (.t 58) (.seq (.reg 0 [⟨0, some 59, none, .p .mov, [.t 1]⟩,
    ⟨1, some 60, none, .e .call [] [], [.f 31, .t 59]⟩,
    ⟨2, some 61, none, .p .mov, [.t 5]⟩,
    ⟨3, some 62, none, .p .len, [.t 61]⟩,
    ⟨4, some 63, none, .p (.bin .add), [.t 62, .c (.int .i64 1)]⟩,
    ⟨5, some 64, none, .p (.bin .rem), [.t 60, .t 63]⟩,
    ⟨6, some 10, none, .p .mov, [.t 64]⟩])
   (.seq (.reg 0 [⟨0, some 66, none, .p .mov, [.t 5]⟩,
    ⟨1, some 67, none, .p .mov, [.t 10]⟩,
    ⟨2, some 68, none, .p (.slice 2 false true false), [.t 66, .t 67]⟩,
    ⟨3, some 69, none, .e .call [] [], [.f 29, .t 68]⟩,
    ⟨4, some 65, none, .p .mov, [.t 69]⟩,
    ⟨5, some 70, none, .p (.extract 0), [.t 65]⟩,
    ⟨6, some 71, none, .p (.extract 1), [.t 65]⟩,
    ⟨7, some 11, none, .l (.alloc 11 [.int .i64 0, .int .i64 0, .int .i64 0, .bool false, .int .i64 0, .bool false, .int .i64 0]), []⟩,
    ⟨8, none, none, .l (.store 11 7), [.t 11, .t 70]⟩,
    ⟨9, some 12, none, .p .mov, [.t 71]⟩])
   (.seq (.reg 0 [⟨0, some 73, none, .p .mov, [.t 5]⟩,
    ⟨1, some 74, none, .p .mov, [.t 10]⟩,
    ⟨2, some 75, none, .p (.slice 2 true false false), [.t 73, .t 74]⟩,
    ⟨3, some 76, none, .e .call [] [], [.f 29, .t 75]⟩,
    ⟨4, some 72, none, .p .mov, [.t 76]⟩,
    ⟨5, some 77, none, .p (.extract 0), [.t 72]⟩,
    ⟨6, some 78, none, .p (.extract 1), [.t 72]⟩,
    ⟨7, some 13, none, .l (.alloc 13 [.int .i64 0, .int .i64 0, .int .i64 0, .bool false, .int .i64 0, .bool false, .int .i64 0]), []⟩,
    ⟨8, none, none, .l (.store 13 7), [.t 13, .t 77]⟩,
    ⟨9, some 14, none, .p .mov, [.t 78]⟩])
   (.seq (.reg 0 [⟨0, some 80, none, .l (.load 11 true 7), [.t 11]⟩,
    ⟨1, some 81, none, .l (.load 13 true 7), [.t 13]⟩,
    ⟨2, some 82, none, .e .call [] [], [.f 32, .t 80, .t 81]⟩,
    ⟨3, some 79, none, .p .mov, [.t 82]⟩,
    ⟨4, some 83, none, .p (.extract 0), [.t 79]⟩,
    ⟨5, some 84, none, .p (.extract 1), [.t 79]⟩,
    ⟨6, some 15, none, .l (.alloc 15 [.int .i64 0, .int .i64 0, .int .i64 0, .bool false, .int .i64 0, .bool false, .int .i64 0]), []⟩,
    ⟨7, none, none, .l (.store 15 7), [.t 15, .t 83]⟩,
    ⟨8, some 16, none, .p .mov, [.t 84]⟩])
   (.seq (.reg 0 [⟨0, some 86, none, .l (.load 13 true 7), [.t 13]⟩,
    ⟨1, some 87, none, .l (.load 11 true 7), [.t 11]⟩,
    ⟨2, some 88, none, .e .call [] [], [.f 32, .t 86, .t 87]⟩,
    ⟨3, some 85, none, .p .mov, [.t 88]⟩,
    ⟨4, some 89, none, .p (.extract 0), [.t 85]⟩,
    ⟨5, some 90, none, .p (.extract 1), [.t 85]⟩,
    ⟨6, some 17, none, .l (.alloc 17 [.int .i64 0, .int .i64 0, .int .i64 0, .bool false, .int .i64 0, .bool false, .int .i64 0]), []⟩,
    ⟨7, none, none, .l (.store 17 7), [.t 17, .t 89]⟩,
    ⟨8, some 18, none, .p .mov, [.t 90]⟩])
   (.seq (.reg 0 [⟨0, some 92, none, .l (.load 6 true 7), [.t 6]⟩,
    ⟨1, some 93, none, .e .call [] [], [.f 33, .t 92]⟩,
    ⟨2, some 91, none, .p .mov, [.t 93]⟩,
    ⟨3, some 94, none, .p (.extract 0), [.t 91]⟩,
    ⟨4, some 95, none, .p (.extract 1), [.t 91]⟩,
    ⟨5, some 19, none, .l (.alloc 19 [.bool false, .int .i64 0]), []⟩,
    ⟨6, none, none, .l (.store 19 2), [.t 19, .t 94]⟩,
    ⟨7, some 20, none, .p .mov, [.t 95]⟩])
   (.seq (.reg 0 [⟨0, some 96, none, .l (.load 6 true 7), [.t 6]⟩,
    ⟨1, some 97, none, .e .call [] [], [.f 34, .t 96]⟩,
    ⟨2, some 98, none, .p (.un .not), [.t 97]⟩,
    ⟨3, some 99, none, .p .mov, [.t 98]⟩,
    ⟨4, some 100, some (99, false), .p .mov, [.t 12]⟩,
    ⟨5, some 101, some (99, false), .p (.un .not), [.t 100]⟩,
    ⟨6, some 102, none, .p .pick, [.t 99, .c (.bool true), .t 101]⟩,
    ⟨7, some 103, none, .p .mov, [.t 102]⟩,
    ⟨8, some 104, some (103, false), .p .mov, [.t 14]⟩,
    ⟨9, some 105, some (103, false), .p (.un .not), [.t 104]⟩,
    ⟨10, some 106, none, .p .pick, [.t 103, .c (.bool true), .t 105]⟩,
    ⟨11, some 107, none, .p .mov, [.t 106]⟩,
    ⟨12, some 108, some (107, false), .p .mov, [.t 16]⟩,
    ⟨13, some 109, some (107, false), .p (.un .not), [.t 108]⟩,
    ⟨14, some 110, none, .p .pick, [.t 107, .c (.bool true), .t 109]⟩,
    ⟨15, some 111, none, .p .mov, [.t 110]⟩,
    ⟨16, some 112, some (111, false), .l (.load 15 true 7), [.t 15]⟩,
    ⟨17, some 113, some (111, false), .l (.load 6 true 7), [.t 6]⟩,
    ⟨18, some 114, some (111, false), .p (.eqAgg true [some .i64, some .i64, some .i64, none, some .i64, none, some .i64]), [.t 112, .t 113]⟩,
    ⟨19, some 115, none, .p .pick, [.t 111, .c (.bool true), .t 114]⟩,
    ⟨20, some 116, none, .p .mov, [.t 115]⟩,
    ⟨21, some 117, some (116, false), .p .mov, [.t 18]⟩,
    ⟨22, some 118, some (116, false), .p (.un .not), [.t 117]⟩,
    ⟨23, some 119, none, .p .pick, [.t 116, .c (.bool true), .t 118]⟩,
    ⟨24, some 120, none, .p .mov, [.t 119]⟩,
    ⟨25, some 121, some (120, false), .l (.load 17 true 7), [.t 17]⟩,
    ⟨26, some 122, some (120, false), .l (.load 6 true 7), [.t 6]⟩,
    ⟨27, some 123, some (120, false), .p (.eqAgg true [some .i64, some .i64, some .i64, none, some .i64, none, some .i64]), [.t 121, .t 122]⟩,
    ⟨28, some 124, none, .p .pick, [.t 120, .c (.bool true), .t 123]⟩,
    ⟨29, some 125, none, .p .mov, [.t 124]⟩,
    ⟨30, some 126, some (125, false), .p .mov, [.t 20]⟩,
    ⟨31, some 127, some (125, false), .p (.un .not), [.t 126]⟩,
    ⟨32, some 128, none, .p .pick, [.t 125, .c (.bool true), .t 127]⟩,
    ⟨33, some 129, none, .p .mov, [.t 128]⟩,
    ⟨34, some 130, some (129, false), .p (.faddr 0), [.t 19]⟩,
    ⟨35, some 131, some (129, false), .l (.load 19 false 1), [.t 130]⟩,
    ⟨36, some 132, some (129, false), .p (.faddr 1), [.t 6]⟩,
    ⟨37, some 133, some (129, false), .l (.load 6 false 1), [.t 132]⟩,
    ⟨38, some 134, some (129, false), .p (.bin .eql), [.t 133, .c (.int .i64 0)]⟩,
    ⟨39, some 135, some (129, false), .p (.eqB true), [.t 131, .t 134]⟩,
    ⟨40, some 136, none, .p .pick, [.t 129, .c (.bool true), .t 135]⟩,
    ⟨41, some 137, none, .p .mov, [.t 136]⟩,
    ⟨42, some 138, some (137, false), .p (.faddr 0), [.t 19]⟩,
    ⟨43, some 139, some (137, false), .l (.load 19 false 1), [.t 138]⟩,
    ⟨44, some 140, some (137, false), .p (.un .not), [.t 139]⟩,
    ⟨45, some 141, some (137, false), .p .mov, [.t 140]⟩,
    ⟨46, some 142, some (141, true), .p (.faddr 1), [.t 19]⟩,
    ⟨47, some 143, some (141, true), .l (.load 19 false 1), [.t 142]⟩,
    ⟨48, some 144, some (141, true), .p (.faddr 3), [.t 6]⟩,
    ⟨49, some 145, some (141, true), .p (.faddr 1), [.t 144]⟩,
    ⟨50, some 146, some (141, true), .l (.load 6 false 1), [.t 145]⟩,
    ⟨51, some 147, some (141, true), .p (.bin .lss), [.t 143, .t 146]⟩,
    ⟨52, some 148, some (141, true), .p .mov, [.t 147]⟩,
    ⟨53, some 149, some (148, false), .p (.faddr 1), [.t 19]⟩,
    ⟨54, some 150, some (148, false), .l (.load 19 false 1), [.t 149]⟩,
    ⟨55, some 151, some (148, false), .p (.faddr 5), [.t 6]⟩,
    ⟨56, some 152, some (148, false), .p (.faddr 1), [.t 151]⟩,
    ⟨57, some 153, some (148, false), .l (.load 6 false 1), [.t 152]⟩,
    ⟨58, some 154, some (148, false), .p (.bin .gtr), [.t 150, .t 153]⟩,
    ⟨59, some 155, some (141, true), .p .pick, [.t 148, .c (.bool true), .t 154]⟩,
    ⟨60, some 156, some (137, false), .p .pick, [.t 141, .t 155, .c (.bool false)]⟩,
    ⟨61, some 157, none, .p .pick, [.t 137, .c (.bool true), .t 156]⟩])
   (.cond (.t 157) (.seq (.reg 0 [⟨0, some 4, none, .p .mov, [.c (.bool false)]⟩])
   (.ret))
   (.skip)))))))))
   (.skip)))
   (.seq (.reg 0 [⟨0, some 159, none, .p .mov, [.t 1]⟩,
    ⟨1, some 160, none, .e .call [] [], [.f 35, .t 159]⟩,
    ⟨2, some 158, none, .p .mov, [.t 160]⟩,
    ⟨3, some 161, none, .p (.extract 0), [.t 158]⟩,
    ⟨4, some 162, none, .p (.extract 1), [.t 158]⟩,
    ⟨5, some 21, none, .l (.alloc 21 [.int .i64 0, .int .i64 0, .int .i64 0, .bool false, .int .i64 0, .bool false, .int .i64 0]), []⟩,
    ⟨6, some 22, none, .l (.alloc 22 [.int .i64 0, .int .i64 0, .int .i64 0, .bool false, .int .i64 0, .bool false, .int .i64 0]), []⟩,
    ⟨7, none, none, .l (.store 21 7), [.t 21, .t 161]⟩,
    ⟨8, none, none, .l (.store 22 7), [.t 22, .t 162]⟩])
   (.seq (.reg 0 [⟨0, some 164, none, .l (.load 21 true 7), [.t 21]⟩,
    ⟨1, some 165, none, .l (.load 22 true 7), [.t 22]⟩,
    ⟨2, some 166, none, .e .call [] [], [.f 32, .t 164, .t 165]⟩,
    ⟨3, some 163, none, .p .mov, [.t 166]⟩,
    ⟨4, some 167, none, .p (.extract 0), [.t 163]⟩,
    ⟨5, some 168, none, .p (.extract 1), [.t 163]⟩,
    ⟨6, some 23, none, .l (.alloc 23 [.int .i64 0, .int .i64 0, .int .i64 0, .bool false, .int .i64 0, .bool false, .int .i64 0]), []⟩,
    ⟨7, none, none, .l (.store 23 7), [.t 23, .t 167]⟩,
    ⟨8, some 24, none, .p .mov, [.t 168]⟩])
   (.seq (.reg 0 [⟨0, some 170, none, .l (.load 21 true 7), [.t 21]⟩,
    ⟨1, some 171, none, .l (.load 22 true 7), [.t 22]⟩,
    ⟨2, some 172, none, .e .call [] [], [.f 36, .t 170, .t 171]⟩,
    ⟨3, some 169, none, .p .mov, [.t 172]⟩,
    ⟨4, some 173, none, .p (.extract 0), [.t 169]⟩,
    ⟨5, some 174, none, .p (.extract 1), [.t 169]⟩,
    ⟨6, some 25, none, .l (.alloc 25 [.int .i64 0, .int .i64 0, .int .i64 0, .bool false, .int .i64 0, .bool false, .int .i64 0]), []⟩,
    ⟨7, none, none, .l (.store 25 7), [.t 25, .t 173]⟩,
    ⟨8, some 26, none, .p .mov, [.t 174]⟩])
   (.seq (.reg 0 [⟨0, some 175, none, .p .mov, [.t 1]⟩,
    ⟨1, some 176, none, .e .call [] [], [.f 37, .t 175]⟩,
    ⟨2, some 27, none, .l (.alloc 27 [.int .i64 0, .int .i64 0, .int .i64 0, .bool false, .int .i64 0, .bool false, .int .i64 0]), []⟩,
    ⟨3, none, none, .l (.store 27 7), [.t 27, .t 176]⟩])
   (.seq (.reg 0 [⟨0, some 178, none, .l (.load 27 true 7), [.t 27]⟩,
    ⟨1, some 179, none, .e .call [] [], [.f 33, .t 178]⟩,
    ⟨2, some 177, none, .p .mov, [.t 179]⟩,
    ⟨3, some 180, none, .p (.extract 0), [.t 177]⟩,
    ⟨4, some 181, none, .p (.extract 1), [.t 177]⟩,
    ⟨5, some 28, none, .l (.alloc 28 [.bool false, .int .i64 0]), []⟩,
    ⟨6, none, none, .l (.store 28 2), [.t 28, .t 180]⟩,
    ⟨7, some 29, none, .p .mov, [.t 181]⟩])
   (.seq (.reg 0 [⟨0, some 183, none, .l (.load 27 true 7), [.t 27]⟩,
    ⟨1, some 184, none, .e .call [] [], [.f 38, .t 183]⟩,
    ⟨2, some 182, none, .p .mov, [.t 184]⟩,
    ⟨3, some 185, none, .p (.extract 0), [.t 182]⟩,
    ⟨4, some 186, none, .p (.extract 1), [.t 182]⟩,
    ⟨5, some 30, none, .l (.alloc 30 [.bool false, .int .i64 0]), []⟩,
    ⟨6, none, none, .l (.store 30 2), [.t 30, .t 185]⟩,
    ⟨7, some 31, none, .p .mov, [.t 186]⟩])
   (.seq (.reg 0 [⟨0, some 187, none, .p .mov, [.t 24]⟩,
    ⟨1, some 188, none, .p .mov, [.t 26]⟩,
    ⟨2, some 189, none, .p (.eqB false), [.t 187, .t 188]⟩,
    ⟨3, some 190, none, .p .mov, [.t 189]⟩,
    ⟨4, some 191, some (190, true), .l (.load 23 true 7), [.t 23]⟩,
    ⟨5, some 192, some (190, true), .l (.load 25 true 7), [.t 25]⟩,
    ⟨6, some 193, some (190, true), .p (.eqAgg false [some .i64, some .i64, some .i64, none, some .i64, none, some .i64]), [.t 191, .t 192]⟩,
    ⟨7, some 194, none, .p .pick, [.t 190, .t 193, .c (.bool false)]⟩,
    ⟨8, some 195, none, .p .mov, [.t 194]⟩,
    ⟨9, some 196, some (195, true), .p .mov, [.t 29]⟩,
    ⟨10, some 197, some (195, true), .p .mov, [.t 31]⟩,
    ⟨11, some 198, some (195, true), .p (.eqB false), [.t 196, .t 197]⟩,
    ⟨12, some 199, none, .p .pick, [.t 195, .t 198, .c (.bool false)]⟩,
    ⟨13, some 200, none, .p .mov, [.t 199]⟩,
    ⟨14, some 201, some (200, true), .l (.load 28 true 2), [.t 28]⟩,
    ⟨15, some 202, some (200, true), .l (.load 30 true 2), [.t 30]⟩,
    ⟨16, some 203, some (200, true), .p (.eqAgg false [none, some .i64]), [.t 201, .t 202]⟩,
    ⟨17, some 204, none, .p .pick, [.t 200, .t 203, .c (.bool false)]⟩,
    ⟨18, some 205, none, .p .mov, [.t 204]⟩,
    ⟨19, some 206, some (205, true), .l (.load 21 true 7), [.t 21]⟩,
    ⟨20, some 207, some (205, true), .e .call [] [], [.f 34, .t 206]⟩,
    ⟨21, some 208, some (205, true), .l (.load 21 true 7), [.t 21]⟩,
    ⟨22, some 209, some (205, true), .e .call [] [], [.f 39, .t 208]⟩,
    ⟨23, some 210, some (205, true), .p (.eqB false), [.t 207, .t 209]⟩,
    ⟨24, some 211, none, .p .pick, [.t 205, .t 210, .c (.bool false)]⟩,
    ⟨25, some 4, none, .p .mov, [.t 211]⟩])
   (.ret)))))))))))))),
  [.tmp 4]⟩
/- loop.example/g00641/spec.DrawAndOf -/
def g3 : GL.Fn := ⟨.seq (.reg 0 [⟨0, some 2, none, .p .mov, [.c (.int .i64 0)]⟩,
    ⟨1, some 3, none, .p .mov, [.c (.int .i64 0)]⟩])
   (.seq (.reg 0 [⟨0, some 5, none, .p .mov, [.t 0]⟩,
    ⟨1, some 6, none, .p (.build [.nils, .int .i64 0, .int .u64 0] [(0, 1)]), [.t 5]⟩,
    ⟨2, some 7, none, .e (.new (.box 3)) [] [], [.t 6]⟩,
    ⟨3, some 4, none, .p .mov, [.t 7]⟩])
   (.seq (.reg 0 [⟨0, some 8, none, .p .mov, [.t 4]⟩,
    ⟨1, some 9, none, .e .call [] [], [.f 86, .t 8]⟩,
    ⟨2, some 10, none, .p .mov, [.t 4]⟩,
    ⟨3, some 11, none, .e .call [] [], [.f 86, .t 10]⟩,
    ⟨4, some 2, none, .p .mov, [.t 9]⟩,
    ⟨5, some 3, none, .p .mov, [.t 11]⟩])
   (.ret))),
  [.tmp 2, .tmp 3]⟩
/- loop.example/g00641/impl.AndOf -/
def g4 : GL.Fn := ⟨.seq (.reg 0 [⟨0, some 4, none, .p .mov, [.c (.int .i64 0)]⟩,
    ⟨1, some 5, none, .p .mov, [.c (.bool false)]⟩])
   (.seq (.seq (.reg 0 [⟨0, some 6, none, .p .mov, [.t 0]⟩,
    ⟨1, some 7, none, .e .call [] [], [.f 87, .t 6]⟩,
    ⟨2, some 8, none, .p (.un .not), [.t 7]⟩,
    ⟨3, some 9, none, .p .mov, [.t 8]⟩,
    ⟨4, some 10, some (9, false), .p .mov, [.t 1]⟩,
    ⟨5, some 11, some (9, false), .e .call [] [], [.f 87, .t 10]⟩,
    ⟨6, some 12, some (9, false), .p (.un .not), [.t 11]⟩,
    ⟨7, some 13, none, .p .pick, [.t 9, .c (.bool true), .t 12]⟩])
   (.cond (.t 13) (.seq (.reg 0 [⟨0, some 4, none, .p .mov, [.c (.int .i64 0)]⟩,
    ⟨1, some 5, none, .p .mov, [.c (.bool false)]⟩])
   (.ret))
   (.skip)))
   (.seq (.reg 0 [⟨0, some 14, none, .p .mov, [.t 0]⟩,
    ⟨1, some 15, none, .p .mov, [.t 1]⟩,
    ⟨2, some 16, none, .p .min2, [.t 14, .t 15]⟩,
    ⟨3, some 4, none, .p .mov, [.t 16]⟩,
    ⟨4, some 5, none, .p .mov, [.c (.bool true)]⟩])
   (.ret))),
  [.tmp 4, .tmp 5]⟩
/- loop.example/g00641/spec.AndOf -/
def g5 : GL.Fn := ⟨.seq (.reg 0 [⟨0, some 4, none, .p .mov, [.c (.int .i64 0)]⟩,
    ⟨1, some 5, none, .p .mov, [.c (.bool false)]⟩])
   (.seq (.seq (.reg 0 [⟨0, some 6, none, .p .mov, [.t 0]⟩,
    ⟨1, some 7, none, .e .call [] [], [.f 88, .t 6]⟩,
    ⟨2, some 8, none, .p (.un .not), [.t 7]⟩,
    ⟨3, some 9, none, .p .mov, [.t 8]⟩,
    ⟨4, some 10, some (9, false), .p .mov, [.t 1]⟩,
    ⟨5, some 11, some (9, false), .e .call [] [], [.f 88, .t 10]⟩,
    ⟨6, some 12, some (9, false), .p (.un .not), [.t 11]⟩,
    ⟨7, some 13, none, .p .pick, [.t 9, .c (.bool true), .t 12]⟩])
   (.cond (.t 13) (.seq (.reg 0 [⟨0, some 4, none, .p .mov, [.c (.int .i64 0)]⟩,
    ⟨1, some 5, none, .p .mov, [.c (.bool false)]⟩])
   (.ret))
   (.skip)))
   (.seq (.reg 0 [⟨0, some 14, none, .p .mov, [.t 0]⟩,
    ⟨1, some 15, none, .p .mov, [.t 1]⟩,
    ⟨2, some 16, none, .e .call [] [], [.f 89, .t 14, .t 15]⟩,
    ⟨3, some 4, none, .p .mov, [.t 16]⟩,
    ⟨4, some 5, none, .p .mov, [.c (.bool true)]⟩])
   (.ret))),
  [.tmp 4, .tmp 5]⟩
/- loop.example/g00641/impl.OrOf -/
def g6 : GL.Fn := ⟨.seq (.reg 0 [⟨0, some 4, none, .p .mov, [.c (.int .i64 0)]⟩,
    ⟨1, some 5, none, .p .mov, [.c (.bool false)]⟩])
   (.seq (.seq (.reg 0 [⟨0, some 6, none, .p .mov, [.t 0]⟩,
    ⟨1, some 7, none, .e .call [] [], [.f 87, .t 6]⟩,
    ⟨2, some 8, none, .p (.un .not), [.t 7]⟩,
    ⟨3, some 9, none, .p .mov, [.t 8]⟩,
    ⟨4, some 10, some (9, false), .p .mov, [.t 1]⟩,
    ⟨5, some 11, some (9, false), .e .call [] [], [.f 87, .t 10]⟩,
    ⟨6, some 12, some (9, false), .p (.un .not), [.t 11]⟩,
    ⟨7, some 13, none, .p .pick, [.t 9, .c (.bool true), .t 12]⟩])
   (.cond (.t 13) (.seq (.reg 0 [⟨0, some 4, none, .p .mov, [.c (.int .i64 0)]⟩,
    ⟨1, some 5, none, .p .mov, [.c (.bool false)]⟩])
   (.ret))
   (.skip)))
   (.seq (.reg 0 [⟨0, some 14, none, .p .mov, [.t 0]⟩,
    ⟨1, some 15, none, .p .mov, [.t 1]⟩,
    ⟨2, some 16, none, .p .max2, [.t 14, .t 15]⟩,
    ⟨3, some 4, none, .p .mov, [.t 16]⟩,
    ⟨4, some 5, none, .p .mov, [.c (.bool true)]⟩])
   (.ret))),
  [.tmp 4, .tmp 5]⟩
/- loop.example/g00641/spec.OrOf -/
def g7 : GL.Fn := ⟨.seq (.reg 0 [⟨0, some 4, none, .p .mov, [.c (.int .i64 0)]⟩,
    ⟨1, some 5, none, .p .mov, [.c (.bool false)]⟩])
   (.seq (.seq (.reg 0 [⟨0, some 6, none, .p .mov, [.t 0]⟩,
    ⟨1, some 7, none, .e .call [] [], [.f 88, .t 6]⟩,
    ⟨2, some 8, none, .p (.un .not), [.t 7]⟩,
    ⟨3, some 9, none, .p .mov, [.t 8]⟩,
    ⟨4, some 10, some (9, false), .p .mov, [.t 1]⟩,
    ⟨5, some 11, some (9, false), .e .call [] [], [.f 88, .t 10]⟩,
    ⟨6, some 12, some (9, false), .p (.un .not), [.t 11]⟩,
    ⟨7, some 13, none, .p .pick, [.t 9, .c (.bool true), .t 12]⟩])
   (.cond (.t 13) (.seq (.reg 0 [⟨0, some 4, none, .p .mov, [.c (.int .i64 0)]⟩,
    ⟨1, some 5, none, .p .mov, [.c (.bool false)]⟩])
   (.ret))
   (.skip)))
   (.seq (.reg 0 [⟨0, some 14, none, .p .mov, [.t 0]⟩,
    ⟨1, some 15, none, .p .mov, [.t 1]⟩,
    ⟨2, some 16, none, .e .call [] [], [.f 90, .t 14, .t 15]⟩,
    ⟨3, some 4, none, .p .mov, [.t 16]⟩,
    ⟨4, some 5, none, .p .mov, [.c (.bool true)]⟩])
   (.ret))),
  [.tmp 4, .tmp 5]⟩
/- loop.example/g00641/impl.NotOf -/
def g8 : GL.Fn := ⟨.seq (.reg 0 [⟨0, some 2, none, .p .mov, [.c (.int .i64 0)]⟩,
    ⟨1, some 3, none, .p .mov, [.c (.bool false)]⟩])
   (.seq (.seq (.reg 0 [⟨0, some 4, none, .p .mov, [.t 0]⟩,
    ⟨1, some 5, none, .e .call [] [], [.f 87, .t 4]⟩,
    ⟨2, some 6, none, .p (.un .not), [.t 5]⟩])
   (.cond (.t 6) (.seq (.reg 0 [⟨0, some 2, none, .p .mov, [.c (.int .i64 0)]⟩,
    ⟨1, some 3, none, .p .mov, [.c (.bool false)]⟩])
   (.ret))
   (.skip)))
   (.seq (.reg 0 [⟨0, some 7, none, .p .mov, [.t 0]⟩,
    ⟨1, some 8, none, .p (.bin .sub), [.c (.int .i64 2), .t 7]⟩,
    ⟨2, some 2, none, .p .mov, [.t 8]⟩,
    ⟨3, some 3, none, .p .mov, [.c (.bool true)]⟩])
   (.ret))),
  [.tmp 2, .tmp 3]⟩
/- loop.example/g00641/impl.AllOf -/
def g9_0 : GL.Code := .seq (.reg 0 [⟨0, some 13, none, .p (.bin .lss), [.t 12, .t 11]⟩])
   (.seq (.cond (.t 13) (.skip)
   (.exit 0))
   (.seq (.block 1 (.seq (.reg 0 [⟨0, some 14, none, .p (.idx 1), [.t 10, .t 12]⟩,
    ⟨1, some 15, none, .r (.load false 1) false, [.t 14]⟩,
    ⟨2, some 6, none, .p .mov, [.t 15]⟩])
   (.seq (.seq (.reg 0 [⟨0, some 16, none, .p .mov, [.t 6]⟩,
    ⟨1, some 17, none, .e .call [] [], [.f 87, .t 16]⟩,
    ⟨2, some 18, none, .p (.un .not), [.t 17]⟩])
   (.cond (.t 18) (.seq (.reg 0 [⟨0, some 2, none, .p .mov, [.c (.int .i64 0)]⟩,
    ⟨1, some 3, none, .p .mov, [.c (.bool false)]⟩])
   (.ret))
   (.skip)))
   (.reg 0 [⟨0, some 19, none, .p .mov, [.t 4]⟩,
    ⟨1, some 20, none, .p .mov, [.t 6]⟩,
    ⟨2, some 21, none, .p .min2, [.t 19, .t 20]⟩,
    ⟨3, some 4, none, .p .mov, [.t 21]⟩]))))
   (.reg 0 [⟨0, some 22, none, .p (.bin .add), [.t 12, .c (.int .i64 1)]⟩,
    ⟨1, some 12, none, .p .mov, [.t 22]⟩])))
def g9 : GL.Fn := ⟨.seq (.reg 0 [⟨0, some 2, none, .p .mov, [.c (.int .i64 0)]⟩,
    ⟨1, some 3, none, .p .mov, [.c (.bool false)]⟩])
   (.seq (.seq (.reg 0 [⟨0, some 7, none, .p .mov, [.t 0]⟩,
    ⟨1, some 8, none, .p .len, [.t 7]⟩,
    ⟨2, some 9, none, .p (.bin .gtr), [.t 8, .c (.int .i64 20)]⟩])
   (.cond (.t 9) (.seq (.reg 0 [⟨0, some 2, none, .p .mov, [.c (.int .i64 0)]⟩,
    ⟨1, some 3, none, .p .mov, [.c (.bool false)]⟩])
   (.ret))
   (.skip)))
   (.seq (.reg 0 [⟨0, some 4, none, .p .mov, [.c (.int .i64 2)]⟩])
   (.seq (.seq (.reg 0 [⟨0, some 10, none, .p .mov, [.t 0]⟩,
    ⟨1, some 11, none, .p .len, [.t 10]⟩,
    ⟨2, some 12, none, .p .mov, [.c (.int .i64 0)]⟩])
   (.block 0 (.loop g9_0)))
   (.seq (.reg 0 [⟨0, some 23, none, .p .mov, [.t 4]⟩,
    ⟨1, some 2, none, .p .mov, [.t 23]⟩,
    ⟨2, some 3, none, .p .mov, [.c (.bool true)]⟩])
   (.ret))))),
  [.tmp 2, .tmp 3]⟩
/- loop.example/g00641/spec.DrawNotOf -/
def g10 : GL.Fn := ⟨.seq (.reg 0 [⟨0, some 2, none, .p .mov, [.c (.int .i64 0)]⟩])
   (.seq (.reg 0 [⟨0, some 4, none, .p .mov, [.t 0]⟩,
    ⟨1, some 5, none, .p (.build [.nils, .int .i64 0, .int .u64 0] [(0, 1)]), [.t 4]⟩,
    ⟨2, some 6, none, .e (.new (.box 3)) [] [], [.t 5]⟩,
    ⟨3, some 3, none, .p .mov, [.t 6]⟩])
   (.seq (.reg 0 [⟨0, some 7, none, .p .mov, [.t 3]⟩,
    ⟨1, some 8, none, .e .call [] [], [.f 86, .t 7]⟩,
    ⟨2, some 2, none, .p .mov, [.t 8]⟩])
   (.ret))),
  [.tmp 2]⟩
/- loop.example/g00641/spec.NotOf -/
def g11 : GL.Fn := ⟨.seq (.reg 0 [⟨0, some 2, none, .p .mov, [.c (.int .i64 0)]⟩,
    ⟨1, some 3, none, .p .mov, [.c (.bool false)]⟩])
   (.seq (.seq (.reg 0 [⟨0, some 4, none, .p .mov, [.t 0]⟩,
    ⟨1, some 5, none, .e .call [] [], [.f 88, .t 4]⟩,
    ⟨2, some 6, none, .p (.un .not), [.t 5]⟩])
   (.cond (.t 6) (.seq (.reg 0 [⟨0, some 2, none, .p .mov, [.c (.int .i64 0)]⟩,
    ⟨1, some 3, none, .p .mov, [.c (.bool false)]⟩])
   (.ret))
   (.skip)))
   (.seq (.reg 0 [⟨0, some 7, none, .p .mov, [.t 0]⟩,
    ⟨1, some 8, none, .p (.bin .sub), [.c (.int .i64 2), .t 7]⟩,
    ⟨2, some 2, none, .p .mov, [.t 8]⟩,
    ⟨3, some 3, none, .p .mov, [.c (.bool true)]⟩])
   (.ret))),
  [.tmp 2, .tmp 3]⟩
/- loop.example/g00641/spec.DrawAllOf -/
def g12_0 : GL.Code := .seq (.seq (.reg 0 [⟨0, some 16, none, .p .mov, [.t 5]⟩,
    ⟨1, some 17, none, .p (.bin .gtr), [.t 16, .c (.int .i64 0)]⟩])
   (.cond (.t 17) (.skip)
   (.exit 0)))
   (.seq (.block 1 (.reg 0 [⟨0, some 20, none, .p .mov, [.t 4]⟩,
    ⟨1, some 21, none, .p .mov, [.t 3]⟩,
    ⟨2, some 22, none, .e (.new (.lit 1)) [] [], [.c (.int .i64 0), .c (.int .i64 1), .c (.int .i64 2), .c (.int .i64 2), .c (.int .i64 2)]⟩,
    ⟨3, some 23, none, .e .call [] [], [.f 93, .t 21, .t 22]⟩,
    ⟨4, some 24, none, .e (.new (.lit 1)) [] [], [.t 23]⟩,
    ⟨5, some 25, none, .e (.append 1 8) [] [], [.t 20, .t 24]⟩,
    ⟨6, some 4, none, .p .mov, [.t 25]⟩]))
   (.reg 0 [⟨0, some 18, none, .p .mov, [.t 5]⟩,
    ⟨1, some 19, none, .p (.bin .sub), [.t 18, .c (.int .i64 1)]⟩,
    ⟨2, some 5, none, .p .mov, [.t 19]⟩]))
def g12 : GL.Fn := ⟨.seq (.reg 0 [⟨0, some 2, none, .p .mov, [.c (.nils)]⟩])
   (.seq (.reg 0 [⟨0, some 6, none, .p .mov, [.t 0]⟩,
    ⟨1, some 7, none, .p (.build [.nils, .int .i64 0, .int .u64 0] [(0, 1)]), [.t 6]⟩,
    ⟨2, some 8, none, .e (.new (.box 3)) [] [], [.t 7]⟩,
    ⟨3, some 3, none, .p .mov, [.t 8]⟩])
   (.seq (.reg 0 [⟨0, some 4, none, .p .mov, [.c (.nils)]⟩])
   (.seq (.reg 0 [⟨0, some 9, none, .p .mov, [.t 3]⟩,
    ⟨1, some 10, none, .e .call [] [], [.f 91, .t 9, .c (.int .i64 5)]⟩,
    ⟨2, some 5, none, .p .mov, [.t 10]⟩])
   (.seq (.seq (.reg 0 [⟨0, some 11, none, .p .mov, [.t 3]⟩,
    ⟨1, some 12, none, .e .call [] [], [.f 92, .t 11, .c (.int .i64 20)]⟩])
   (.cond (.t 12) (.reg 0 [⟨0, some 13, none, .p .mov, [.t 3]⟩,
    ⟨1, some 14, none, .e .call [] [], [.f 91, .t 13, .c (.int .i64 2)]⟩,
    ⟨2, some 15, none, .p (.bin .add), [.c (.int .i64 20), .t 14]⟩,
    ⟨3, some 5, none, .p .mov, [.t 15]⟩])
   (.skip)))
   (.seq (.block 0 (.loop g12_0))
   (.seq (.seq (.reg 0 [⟨0, some 26, none, .p .mov, [.t 4]⟩,
    ⟨1, some 27, none, .p .len, [.t 26]⟩,
    ⟨2, some 28, none, .p (.bin .gtr), [.t 27, .c (.int .i64 0)]⟩,
    ⟨3, some 29, none, .p .mov, [.t 28]⟩,
    ⟨4, some 30, some (29, true), .p .mov, [.t 3]⟩,
    ⟨5, some 31, some (29, true), .e .call [] [], [.f 92, .t 30, .c (.int .i64 20)]⟩,
    ⟨6, some 32, none, .p .pick, [.t 29, .t 31, .c (.bool false)]⟩])
   (.cond (.t 32) (.reg 0 [⟨0, some 33, none, .p .mov, [.t 4]⟩,
    ⟨1, some 34, none, .p (.idx 1), [.t 33, .c (.int .i64 0)]⟩,
    ⟨2, none, none, .e (.store 1) [] [], [.t 34, .c (.int .i64 3)]⟩])
   (.skip)))
   (.seq (.reg 0 [⟨0, some 35, none, .p .mov, [.t 4]⟩,
    ⟨1, some 2, none, .p .mov, [.t 35]⟩])
   (.ret)))))))),
  [.tmp 2]⟩
/- loop.example/g00641/spec.AllOf -/
def g13_0 : GL.Code := .seq (.reg 0 [⟨0, some 18, none, .p (.bin .lss), [.t 17, .t 16]⟩])
   (.seq (.cond (.t 18) (.skip)
   (.exit 0))
   (.seq (.block 1 (.seq (.reg 0 [⟨0, some 19, none, .p (.idx 1), [.t 15, .t 17]⟩,
    ⟨1, some 20, none, .r (.load false 1) false, [.t 19]⟩,
    ⟨2, some 6, none, .p .mov, [.t 20]⟩])
   (.reg 0 [⟨0, some 21, none, .p .mov, [.t 4]⟩,
    ⟨1, some 22, none, .p .mov, [.t 6]⟩,
    ⟨2, some 23, none, .e .call [] [], [.f 89, .t 21, .t 22]⟩,
    ⟨3, some 4, none, .p .mov, [.t 23]⟩])))
   (.reg 0 [⟨0, some 24, none, .p (.bin .add), [.t 17, .c (.int .i64 1)]⟩,
    ⟨1, some 17, none, .p .mov, [.t 24]⟩])))
def g13 : GL.Fn := ⟨.seq (.reg 0 [⟨0, some 2, none, .p .mov, [.c (.int .i64 0)]⟩,
    ⟨1, some 3, none, .p .mov, [.c (.bool false)]⟩])
   (.seq (.seq (.reg 0 [⟨0, some 7, none, .p .mov, [.t 0]⟩,
    ⟨1, some 8, none, .p .len, [.t 7]⟩,
    ⟨2, some 9, none, .p (.bin .gtr), [.t 8, .c (.int .i64 20)]⟩,
    ⟨3, some 10, none, .p .mov, [.t 9]⟩,
    ⟨4, some 11, some (10, false), .p .mov, [.t 0]⟩,
    ⟨5, some 12, some (10, false), .e .call [] [], [.f 94, .t 11, .c (.int .i64 0), .c (.int .i64 2)]⟩,
    ⟨6, some 13, some (10, false), .p (.un .not), [.t 12]⟩,
    ⟨7, some 14, none, .p .pick, [.t 10, .c (.bool true), .t 13]⟩])
   (.cond (.t 14) (.seq (.reg 0 [⟨0, some 2, none, .p .mov, [.c (.int .i64 0)]⟩,
    ⟨1, some 3, none, .p .mov, [.c (.bool false)]⟩])
   (.ret))
   (.skip)))
   (.seq (.reg 0 [⟨0, some 4, none, .p .mov, [.c (.int .i64 2)]⟩])
   (.seq (.seq (.reg 0 [⟨0, some 15, none, .p .mov, [.t 0]⟩,
    ⟨1, some 16, none, .p .len, [.t 15]⟩,
    ⟨2, some 17, none, .p .mov, [.c (.int .i64 0)]⟩])
   (.block 0 (.loop g13_0)))
   (.seq (.reg 0 [⟨0, some 25, none, .p .mov, [.t 4]⟩,
    ⟨1, some 2, none, .p .mov, [.t 25]⟩,
    ⟨2, some 3, none, .p .mov, [.c (.bool true)]⟩])
   (.ret))))),
  [.tmp 2, .tmp 3]⟩
/- loop.example/g00641/spec.DrawCompare -/
def g15 : GL.Fn := ⟨.seq (.reg 0 [⟨0, some 2, none, .p .mov, [.c (.int .i64 0)]⟩,
    ⟨1, some 3, none, .l (.alloc 3 [.bool false, .int .i64 0]), []⟩,
    ⟨2, some 4, none, .l (.alloc 4 [.bool false, .int .i64 0]), []⟩])
   (.seq (.reg 0 [⟨0, some 6, none, .p .mov, [.t 0]⟩,
    ⟨1, some 7, none, .p (.build [.nils, .int .i64 0, .int .u64 0] [(0, 1)]), [.t 6]⟩,
    ⟨2, some 8, none, .e (.new (.box 3)) [] [], [.t 7]⟩,
    ⟨3, some 5, none, .p .mov, [.t 8]⟩])
   (.seq (.reg 0 [⟨0, some 9, none, .p .mov, [.t 5]⟩,
    ⟨1, some 10, none, .e .call [] [], [.f 91, .t 9, .c (.int .i64 4)]⟩,
    ⟨2, some 11, none, .p .mov, [.t 5]⟩,
    ⟨3, some 12, none, .e .call [] [], [.f 91, .t 11, .c (.int .i64 9)]⟩,
    ⟨4, some 13, none, .p (.bin .quo), [.t 12, .c (.int .i64 8)]⟩,
    ⟨5, some 14, none, .p (.bin .sub), [.t 10, .t 13]⟩,
    ⟨6, some 15, none, .p .mov, [.t 5]⟩,
    ⟨7, some 16, none, .e .call [] [], [.f 95, .t 15]⟩,
    ⟨8, some 17, none, .p .mov, [.t 5]⟩,
    ⟨9, some 18, none, .e .call [] [], [.f 95, .t 17]⟩,
    ⟨10, some 2, none, .p .mov, [.t 14]⟩,
    ⟨11, none, none, .l (.store 3 2), [.t 3, .t 16]⟩,
    ⟨12, none, none, .l (.store 4 2), [.t 4, .t 18]⟩])
   (.ret))),
  [.tmp 2, .cellL 3 3 true 2, .cellL 4 4 true 2]⟩
/- loop.example/g00641/impl.Compare -/
def g16 : GL.Fn := ⟨.seq (.reg 0 [⟨0, some 4, none, .l (.box 4 2), [.t 1]⟩,
    ⟨1, some 5, none, .l (.box 5 2), [.t 2]⟩,
    ⟨2, some 6, none, .p .mov, [.c (.int .i64 0)]⟩,
    ⟨3, some 7, none, .p .mov, [.c (.bool false)]⟩])
   (.seq (.seq (.reg 0 [⟨0, some 8, none, .p .mov, [.t 0]⟩,
    ⟨1, some 9, none, .e .call [] [], [.f 96, .t 8]⟩,
    ⟨2, some 10, none, .p (.un .not), [.t 9]⟩,
    ⟨3, some 11, none, .p .mov, [.t 10]⟩,
    ⟨4, some 12, some (11, false), .l (.load 4 true 2), [.t 4]⟩,
    ⟨5, some 13, some (11, false), .e .call [] [], [.f 25, .t 12]⟩,
    ⟨6, some 14, some (11, false), .p (.un .not), [.t 13]⟩,
    ⟨7, some 15, none, .p .pick, [.t 11, .c (.bool true), .t 14]⟩,
    ⟨8, some 16, none, .p .mov, [.t 15]⟩,
    ⟨9, some 17, some (16, false), .l (.load 5 true 2), [.t 5]⟩,
    ⟨10, some 18, some (16, false), .e .call [] [], [.f 25, .t 17]⟩,
    ⟨11, some 19, some (16, false), .p (.un .not), [.t 18]⟩,
    ⟨12, some 20, none, .p .pick, [.t 16, .c (.bool true), .t 19]⟩])
   (.cond (.t 20) (.seq (.reg 0 [⟨0, some 6, none, .p .mov, [.c (.int .i64 0)]⟩,
    ⟨1, some 7, none, .p .mov, [.c (.bool false)]⟩])
   (.ret))
   (.skip)))
   (.seq (.reg 0 [⟨0, some 21, none, .p .mov, [.t 0]⟩,
    ⟨1, some 22, none, .l (.load 4 true 2), [.t 4]⟩,
    ⟨2, some 23, none, .l (.load 5 true 2), [.t 5]⟩,
    ⟨3, some 24, none, .e .call [] [], [.f 97, .t 21, .t 22, .t 23]⟩,
    ⟨4, some 6, none, .p .mov, [.t 24]⟩,
    ⟨5, some 7, none, .p .mov, [.c (.bool true)]⟩])
   (.ret))),
  [.tmp 6, .tmp 7]⟩
/- loop.example/g00641/spec.Compare -/
def g17 : GL.Fn := ⟨.seq (.reg 0 [⟨0, some 4, none, .l (.box 4 2), [.t 1]⟩,
    ⟨1, some 5, none, .l (.box 5 2), [.t 2]⟩,
    ⟨2, some 6, none, .p .mov, [.c (.int .i64 0)]⟩,
    ⟨3, some 7, none, .p .mov, [.c (.bool false)]⟩])
   (.seq (.seq (.reg 0 [⟨0, some 8, none, .p .mov, [.t 0]⟩,
    ⟨1, some 9, none, .e .call [] [], [.f 98, .t 8, .c (.int .i64 0), .c (.int .i64 2)]⟩,
    ⟨2, some 10, none, .p (.un .not), [.t 9]⟩,
    ⟨3, some 11, none, .p .mov, [.t 10]⟩,
    ⟨4, some 12, some (11, false), .l (.load 4 true 2), [.t 4]⟩,
    ⟨5, some 13, some (11, false), .e .call [] [], [.f 26, .t 12]⟩,
    ⟨6, some 14, some (11, false), .p (.un .not), [.t 13]⟩,
    ⟨7, some 15, none, .p .pick, [.t 11, .c (.bool true), .t 14]⟩,
    ⟨8, some 16, none, .p .mov, [.t 15]⟩,
    ⟨9, some 17, some (16, false), .l (.load 5 true 2), [.t 5]⟩,
    ⟨10, some 18, some (16, false), .e .call [] [], [.f 26, .t 17]⟩,
    ⟨11, some 19, some (16, false), .p (.un .not), [.t 18]⟩,
    ⟨12, some 20, none, .p .pick, [.t 16, .c (.bool true), .t 19]⟩])
   (.cond (.t 20) (.seq (.reg 0 [⟨0, some 6, none, .p .mov, [.c (.int .i64 0)]⟩,
    ⟨1, some 7, none, .p .mov, [.c (.bool false)]⟩])
   (.ret))
   (.skip)))
   (.seq (.reg 0 [⟨0, some 21, none, .p .mov, [.t 0]⟩,
    ⟨1, some 22, none, .l (.load 4 true 2), [.t 4]⟩,
    ⟨2, some 23, none, .l (.load 5 true 2), [.t 5]⟩,
    ⟨3, some 24, none, .e .call [] [], [.f 99, .t 21, .t 22, .t 23]⟩,
    ⟨4, some 6, none, .p .mov, [.t 24]⟩,
    ⟨5, some 7, none, .p .mov, [.c (.bool true)]⟩])
   (.ret))),
  [.tmp 6, .tmp 7]⟩
/- loop.example/g00641/impl.FillsOf -/
def g18_0 : GL.Code := .seq (.reg 0 [⟨0, some 21, none, .p (.bin .lss), [.t 20, .t 19]⟩])
   (.seq (.cond (.t 21) (.skip)
   (.exit 0))
   (.seq (.block 1 (.seq (.reg 0 [⟨0, some 22, none, .p (.idx 1), [.t 18, .t 20]⟩,
    ⟨1, some 23, none, .r (.load false 1) false, [.t 22]⟩,
    ⟨2, some 8, none, .p .mov, [.t 23]⟩])
   (.seq (.seq (.reg 0 [⟨0, some 24, none, .p .mov, [.t 8]⟩,
    ⟨1, some 25, none, .e .call [] [], [.f 100, .t 24]⟩,
    ⟨2, some 26, none, .p (.un .not), [.t 25]⟩])
   (.cond (.t 26) (.seq (.reg 0 [⟨0, some 4, none, .p .mov, [.c (.nils)]⟩,
    ⟨1, some 5, none, .p .mov, [.c (.bool false)]⟩])
   (.ret))
   (.skip)))
   (.seq (.seq (.reg 0 [⟨0, some 27, none, .p (.faddr 0), [.t 2]⟩,
    ⟨1, some 28, none, .l (.load 2 false 1), [.t 27]⟩,
    ⟨2, some 29, none, .p (.un .not), [.t 28]⟩])
   (.cond (.t 29) (.reg 0 [⟨0, some 30, none, .p (.faddr 1), [.t 2]⟩,
    ⟨1, some 31, none, .l (.load 2 false 1), [.t 30]⟩,
    ⟨2, some 8, none, .p .mov, [.t 31]⟩])
   (.skip)))
   (.reg 0 [⟨0, some 32, none, .p .mov, [.t 6]⟩,
    ⟨1, some 33, none, .p .mov, [.t 8]⟩,
    ⟨2, some 34, none, .e (.new (.lit 1)) [] [], [.t 33]⟩,
    ⟨3, some 35, none, .e (.append 1 8) [] [], [.t 32, .t 34]⟩,
    ⟨4, some 6, none, .p .mov, [.t 35]⟩])))))
   (.reg 0 [⟨0, some 36, none, .p (.bin .add), [.t 20, .c (.int .i64 1)]⟩,
    ⟨1, some 20, none, .p .mov, [.t 36]⟩])))
def g18 : GL.Fn := ⟨.seq (.reg 0 [⟨0, some 2, none, .l (.box 2 2), [.t 0]⟩,
    ⟨1, some 4, none, .p .mov, [.c (.nils)]⟩,
    ⟨2, some 5, none, .p .mov, [.c (.bool false)]⟩])
   (.seq (.seq (.reg 0 [⟨0, some 9, none, .l (.load 2 true 2), [.t 2]⟩,
    ⟨1, some 10, none, .e .call [] [], [.f 25, .t 9]⟩,
    ⟨2, some 11, none, .p (.un .not), [.t 10]⟩,
    ⟨3, some 12, none, .p .mov, [.t 11]⟩,
    ⟨4, some 13, some (12, false), .p .mov, [.t 1]⟩,
    ⟨5, some 14, some (12, false), .p .len, [.t 13]⟩,
    ⟨6, some 15, some (12, false), .p (.bin .gtr), [.t 14, .c (.int .i64 10)]⟩,
    ⟨7, some 16, none, .p .pick, [.t 12, .c (.bool true), .t 15]⟩])
   (.cond (.t 16) (.seq (.reg 0 [⟨0, some 4, none, .p .mov, [.c (.nils)]⟩,
    ⟨1, some 5, none, .p .mov, [.c (.bool false)]⟩])
   (.ret))
   (.skip)))
   (.seq (.reg 0 [⟨0, some 17, none, .e (.new (.lit 1)) [] [], []⟩,
    ⟨1, some 6, none, .p .mov, [.t 17]⟩])
   (.seq (.seq (.reg 0 [⟨0, some 18, none, .p .mov, [.t 1]⟩,
    ⟨1, some 19, none, .p .len, [.t 18]⟩,
    ⟨2, some 20, none, .p .mov, [.c (.int .i64 0)]⟩])
   (.block 0 (.loop g18_0)))
   (.seq (.reg 0 [⟨0, some 37, none, .p .mov, [.t 6]⟩,
    ⟨1, some 4, none, .p .mov, [.t 37]⟩,
    ⟨2, some 5, none, .p .mov, [.c (.bool true)]⟩])
   (.ret))))),
  [.tmp 4, .tmp 5]⟩
/- loop.example/g00641/spec.DrawSameValue -/
def g19 : GL.Fn := ⟨.seq (.reg 0 [⟨0, some 2, none, .l (.alloc 2 [.bool false, .int .i64 0]), []⟩,
    ⟨1, some 3, none, .l (.alloc 3 [.bool false, .int .i64 0]), []⟩])
   (.seq (.reg 0 [⟨0, some 5, none, .p .mov, [.t 0]⟩,
    ⟨1, some 6, none, .p (.build [.nils, .int .i64 0, .int .u64 0] [(0, 1)]), [.t 5]⟩,
    ⟨2, some 7, none, .e (.new (.box 3)) [] [], [.t 6]⟩,
    ⟨3, some 4, none, .p .mov, [.t 7]⟩])
   (.seq (.reg 0 [⟨0, some 8, none, .p .mov, [.t 4]⟩,
    ⟨1, some 9, none, .e .call [] [], [.f 95, .t 8]⟩,
    ⟨2, some 10, none, .p .mov, [.t 4]⟩,
    ⟨3, some 11, none, .e .call [] [], [.f 95, .t 10]⟩,
    ⟨4, none, none, .l (.store 2 2), [.t 2, .t 9]⟩,
    ⟨5, none, none, .l (.store 3 2), [.t 3, .t 11]⟩])
   (.ret))),
  [.cellL 2 2 true 2, .cellL 3 3 true 2]⟩
/- loop.example/g00641/impl.SameValue -/
def g20 : GL.Fn := ⟨.seq (.reg 0 [⟨0, some 2, none, .l (.box 2 2), [.t 0]⟩,
    ⟨1, some 3, none, .l (.box 3 2), [.t 1]⟩,
    ⟨2, some 4, none, .p .mov, [.c (.bool false)]⟩,
    ⟨3, some 5, none, .p .mov, [.c (.bool false)]⟩])
   (.seq (.seq (.reg 0 [⟨0, some 6, none, .l (.load 2 true 2), [.t 2]⟩,
    ⟨1, some 7, none, .e .call [] [], [.f 25, .t 6]⟩,
    ⟨2, some 8, none, .p (.un .not), [.t 7]⟩,
    ⟨3, some 9, none, .p .mov, [.t 8]⟩,
    ⟨4, some 10, some (9, false), .l (.load 3 true 2), [.t 3]⟩,
    ⟨5, some 11, some (9, false), .e .call [] [], [.f 25, .t 10]⟩,
    ⟨6, some 12, some (9, false), .p (.un .not), [.t 11]⟩,
    ⟨7, some 13, none, .p .pick, [.t 9, .c (.bool true), .t 12]⟩])
   (.cond (.t 13) (.seq (.reg 0 [⟨0, some 4, none, .p .mov, [.c (.bool false)]⟩,
    ⟨1, some 5, none, .p .mov, [.c (.bool false)]⟩])
   (.ret))
   (.skip)))
   (.seq (.reg 0 [⟨0, some 14, none, .l (.load 2 true 2), [.t 2]⟩,
    ⟨1, some 15, none, .l (.load 3 true 2), [.t 3]⟩,
    ⟨2, some 16, none, .p (.eqAgg false [none, some .i64]), [.t 14, .t 15]⟩,
    ⟨3, some 4, none, .p .mov, [.t 16]⟩,
    ⟨4, some 5, none, .p .mov, [.c (.bool true)]⟩])
   (.ret))),
  [.tmp 4, .tmp 5]⟩
/- loop.example/g00641/spec.SameValue -/
def g21 : GL.Fn := ⟨.seq (.reg 0 [⟨0, some 2, none, .l (.box 2 2), [.t 0]⟩,
    ⟨1, some 3, none, .l (.box 3 2), [.t 1]⟩,
    ⟨2, some 4, none, .p .mov, [.c (.bool false)]⟩,
    ⟨3, some 5, none, .p .mov, [.c (.bool false)]⟩])
   (.seq (.seq (.reg 0 [⟨0, some 6, none, .l (.load 2 true 2), [.t 2]⟩,
    ⟨1, some 7, none, .e .call [] [], [.f 26, .t 6]⟩,
    ⟨2, some 8, none, .p (.un .not), [.t 7]⟩,
    ⟨3, some 9, none, .p .mov, [.t 8]⟩,
    ⟨4, some 10, some (9, false), .l (.load 3 true 2), [.t 3]⟩,
    ⟨5, some 11, some (9, false), .e .call [] [], [.f 26, .t 10]⟩,
    ⟨6, some 12, some (9, false), .p (.un .not), [.t 11]⟩,
    ⟨7, some 13, none, .p .pick, [.t 9, .c (.bool true), .t 12]⟩])
   (.cond (.t 13) (.seq (.reg 0 [⟨0, some 4, none, .p .mov, [.c (.bool false)]⟩,
    ⟨1, some 5, none, .p .mov, [.c (.bool false)]⟩])
   (.ret))
   (.skip)))
   (.seq (.reg 0 [⟨0, some 14, none, .l (.load 2 true 2), [.t 2]⟩,
    ⟨1, some 15, none, .l (.load 3 true 2), [.t 3]⟩,
    ⟨2, some 16, none, .p (.eqAgg false [none, some .i64]), [.t 14, .t 15]⟩,
    ⟨3, some 4, none, .p .mov, [.t 16]⟩,
    ⟨4, some 5, none, .p .mov, [.c (.bool true)]⟩])
   (.ret))),
  [.tmp 4, .tmp 5]⟩
/- loop.example/g00641/spec.DrawFillsOf -/
def g22_0 : GL.Code := .seq (.seq (.reg 0 [⟨0, some 15, none, .p .mov, [.t 7]⟩,
    ⟨1, some 16, none, .p (.bin .gtr), [.t 15, .c (.int .i64 0)]⟩])
   (.cond (.t 16) (.skip)
   (.exit 0)))
   (.seq (.block 1 (.reg 0 [⟨0, some 19, none, .p .mov, [.t 6]⟩,
    ⟨1, some 20, none, .p .mov, [.t 4]⟩,
    ⟨2, some 21, none, .e .call [] [], [.f 91, .t 20, .c (.int .i64 9)]⟩,
    ⟨3, some 22, none, .p (.bin .sub), [.t 21, .c (.int .i64 4)]⟩,
    ⟨4, some 23, none, .e (.new (.lit 1)) [] [], [.t 22]⟩,
    ⟨5, some 24, none, .e (.append 1 8) [] [], [.t 19, .t 23]⟩,
    ⟨6, some 6, none, .p .mov, [.t 24]⟩]))
   (.reg 0 [⟨0, some 17, none, .p .mov, [.t 7]⟩,
    ⟨1, some 18, none, .p (.bin .sub), [.t 17, .c (.int .i64 1)]⟩,
    ⟨2, some 7, none, .p .mov, [.t 18]⟩]))
def g22 : GL.Fn := ⟨.seq (.reg 0 [⟨0, some 2, none, .l (.alloc 2 [.bool false, .int .i64 0]), []⟩,
    ⟨1, some 3, none, .p .mov, [.c (.nils)]⟩])
   (.seq (.reg 0 [⟨0, some 8, none, .p .mov, [.t 0]⟩,
    ⟨1, some 9, none, .p (.build [.nils, .int .i64 0, .int .u64 0] [(0, 1)]), [.t 8]⟩,
    ⟨2, some 10, none, .e (.new (.box 3)) [] [], [.t 9]⟩,
    ⟨3, some 4, none, .p .mov, [.t 10]⟩])
   (.seq (.reg 0 [⟨0, some 11, none, .p .mov, [.t 4]⟩,
    ⟨1, some 12, none, .e .call [] [], [.f 95, .t 11]⟩,
    ⟨2, some 5, none, .l (.alloc 5 [.bool false, .int .i64 0]), []⟩,
    ⟨3, none, none, .l (.store 5 2), [.t 5, .t 12]⟩])
   (.seq (.reg 0 [⟨0, some 6, none, .p .mov, [.c (.nils)]⟩])
   (.seq (.seq (.reg 0 [⟨0, some 13, none, .p .mov, [.t 4]⟩,
    ⟨1, some 14, none, .e .call [] [], [.f 91, .t 13, .c (.int .i64 5)]⟩,
    ⟨2, some 7, none, .p .mov, [.t 14]⟩])
   (.block 0 (.loop g22_0)))
   (.seq (.reg 0 [⟨0, some 25, none, .l (.load 5 true 2), [.t 5]⟩,
    ⟨1, some 26, none, .p .mov, [.t 6]⟩,
    ⟨2, none, none, .l (.store 2 2), [.t 2, .t 25]⟩,
    ⟨3, some 3, none, .p .mov, [.t 26]⟩])
   (.ret)))))),
  [.cellL 2 2 true 2, .tmp 3]⟩
/- loop.example/g00641/spec.FillsOf -/
def g23_0 : GL.Code := .seq (.reg 0 [⟨0, some 25, none, .p (.bin .lss), [.t 24, .t 23]⟩])
   (.seq (.cond (.t 25) (.skip)
   (.exit 0))
   (.seq (.block 1 (.seq (.reg 0 [⟨0, some 26, none, .p (.idx 1), [.t 22, .t 24]⟩,
    ⟨1, some 27, none, .r (.load false 1) false, [.t 26]⟩,
    ⟨2, some 8, none, .p .mov, [.t 27]⟩])
   (.seq (.seq (.reg 0 [⟨0, some 28, none, .p (.faddr 0), [.t 2]⟩,
    ⟨1, some 29, none, .l (.load 2 false 1), [.t 28]⟩,
    ⟨2, some 30, none, .p (.un .not), [.t 29]⟩])
   (.cond (.t 30) (.reg 0 [⟨0, some 31, none, .p (.faddr 1), [.t 2]⟩,
    ⟨1, some 32, none, .l (.load 2 false 1), [.t 31]⟩,
    ⟨2, some 8, none, .p .mov, [.t 32]⟩])
   (.skip)))
   (.reg 0 [⟨0, some 33, none, .p .mov, [.t 6]⟩,
    ⟨1, some 34, none, .p .mov, [.t 8]⟩,
    ⟨2, some 35, none, .e (.new (.lit 1)) [] [], [.t 34]⟩,
    ⟨3, some 36, none, .e (.append 1 8) [] [], [.t 33, .t 35]⟩,
    ⟨4, some 6, none, .p .mov, [.t 36]⟩]))))
   (.reg 0 [⟨0, some 37, none, .p (.bin .add), [.t 24, .c (.int .i64 1)]⟩,
    ⟨1, some 24, none, .p .mov, [.t 37]⟩])))
def g23 : GL.Fn := ⟨.seq (.reg 0 [⟨0, some 2, none, .l (.box 2 2), [.t 0]⟩,
    ⟨1, some 4, none, .p .mov, [.c (.nils)]⟩,
    ⟨2, some 5, none, .p .mov, [.c (.bool false)]⟩])
   (.seq (.seq (.reg 0 [⟨0, some 9, none, .l (.load 2 true 2), [.t 2]⟩,
    ⟨1, some 10, none, .e .call [] [], [.f 26, .t 9]⟩,
    ⟨2, some 11, none, .p (.un .not), [.t 10]⟩,
    ⟨3, some 12, none, .p .mov, [.t 11]⟩,
    ⟨4, some 13, some (12, false), .p .mov, [.t 1]⟩,
    ⟨5, some 14, some (12, false), .p .len, [.t 13]⟩,
    ⟨6, some 15, some (12, false), .p (.bin .gtr), [.t 14, .c (.int .i64 10)]⟩,
    ⟨7, some 16, none, .p .pick, [.t 12, .c (.bool true), .t 15]⟩,
    ⟨8, some 17, none, .p .mov, [.t 16]⟩,
    ⟨9, some 18, some (17, false), .p .mov, [.t 1]⟩,
    ⟨10, some 19, some (17, false), .e .call [] [], [.f 94, .t 18, .c (.int .i64 (-1000)), .c (.int .i64 1000)]⟩,
    ⟨11, some 20, some (17, false), .p (.un .not), [.t 19]⟩,
    ⟨12, some 21, none, .p .pick, [.t 17, .c (.bool true), .t 20]⟩])
   (.cond (.t 21) (.seq (.reg 0 [⟨0, some 4, none, .p .mov, [.c (.nils)]⟩,
    ⟨1, some 5, none, .p .mov, [.c (.bool false)]⟩])
   (.ret))
   (.skip)))
   (.seq (.reg 0 [⟨0, some 6, none, .p .mov, [.c (.nils)]⟩])
   (.seq (.seq (.reg 0 [⟨0, some 22, none, .p .mov, [.t 1]⟩,
    ⟨1, some 23, none, .p .len, [.t 22]⟩,
    ⟨2, some 24, none, .p .mov, [.c (.int .i64 0)]⟩])
   (.block 0 (.loop g23_0)))
   (.seq (.reg 0 [⟨0, some 38, none, .p .mov, [.t 6]⟩,
    ⟨1, some 4, none, .p .mov, [.t 38]⟩,
    ⟨2, some 5, none, .p .mov, [.c (.bool true)]⟩])
   (.ret))))),
  [.tmp 4, .tmp 5]⟩
/- loop.example/g00641/laws.sameInts -/
def g24_0 : GL.Code := .seq (.reg 0 [⟨0, some 14, none, .p (.bin .lss), [.t 13, .t 12]⟩])
   (.seq (.cond (.t 14) (.skip)
   (.exit 0))
   (.seq (.block 1 (.seq (.reg 0 [⟨0, some 15, none, .p .mov, [.t 13]⟩,
    ⟨1, some 5, none, .p .mov, [.t 15]⟩])
   (.seq (.reg 0 [⟨0, some 16, none, .p .mov, [.t 0]⟩,
    ⟨1, some 17, none, .p .mov, [.t 5]⟩,
    ⟨2, some 18, none, .p (.idx 1), [.t 16, .t 17]⟩,
    ⟨3, some 19, none, .r (.load false 1) false, [.t 18]⟩,
    ⟨4, some 20, none, .p .mov, [.t 1]⟩,
    ⟨5, some 21, none, .p .mov, [.t 5]⟩,
    ⟨6, some 22, none, .p (.idx 1), [.t 20, .t 21]⟩,
    ⟨7, some 23, none, .r (.load false 1) false, [.t 22]⟩,
    ⟨8, some 24, none, .p (.bin .neq), [.t 19, .t 23]⟩])
   (.cond (.t 24) (.seq (.reg 0 [⟨0, some 4, none, .p .mov, [.c (.bool false)]⟩])
   (.ret))
   (.skip)))))
   (.reg 0 [⟨0, some 25, none, .p (.bin .add), [.t 13, .c (.int .i64 1)]⟩,
    ⟨1, some 13, none, .p .mov, [.t 25]⟩])))
def g24 : GL.Fn := ⟨.seq (.reg 0 [⟨0, some 4, none, .p .mov, [.c (.bool false)]⟩])
   (.seq (.seq (.reg 0 [⟨0, some 6, none, .p .mov, [.t 0]⟩,
    ⟨1, some 7, none, .p .len, [.t 6]⟩,
    ⟨2, some 8, none, .p .mov, [.t 1]⟩,
    ⟨3, some 9, none, .p .len, [.t 8]⟩,
    ⟨4, some 10, none, .p (.bin .neq), [.t 7, .t 9]⟩])
   (.cond (.t 10) (.seq (.reg 0 [⟨0, some 4, none, .p .mov, [.c (.bool false)]⟩])
   (.ret))
   (.skip)))
   (.seq (.seq (.reg 0 [⟨0, some 11, none, .p .mov, [.t 0]⟩,
    ⟨1, some 12, none, .p .len, [.t 11]⟩,
    ⟨2, some 13, none, .p .mov, [.c (.int .i64 0)]⟩])
   (.block 0 (.loop g24_0)))
   (.seq (.reg 0 [⟨0, some 4, none, .p .mov, [.c (.bool true)]⟩])
   (.ret)))),
  [.tmp 4]⟩
/- loop.example/g00641/impl.GoodValue -/
def g25 : GL.Fn := ⟨.seq (.reg 0 [⟨0, some 1, none, .l (.box 1 2), [.t 0]⟩,
    ⟨1, some 2, none, .p .mov, [.c (.bool false)]⟩])
   (.seq (.reg 0 [⟨0, some 3, none, .p (.faddr 0), [.t 1]⟩,
    ⟨1, some 4, none, .l (.load 1 false 1), [.t 3]⟩,
    ⟨2, some 5, none, .p .mov, [.t 4]⟩,
    ⟨3, some 6, some (5, true), .p (.faddr 1), [.t 1]⟩,
    ⟨4, some 7, some (5, true), .l (.load 1 false 1), [.t 6]⟩,
    ⟨5, some 8, some (5, true), .p (.bin .eql), [.t 7, .c (.int .i64 0)]⟩,
    ⟨6, some 9, none, .p .pick, [.t 5, .t 8, .c (.bool false)]⟩,
    ⟨7, some 10, none, .p .mov, [.t 9]⟩,
    ⟨8, some 11, some (10, false), .p (.faddr 0), [.t 1]⟩,
    ⟨9, some 12, some (10, false), .l (.load 1 false 1), [.t 11]⟩,
    ⟨10, some 13, some (10, false), .p (.un .not), [.t 12]⟩,
    ⟨11, some 14, some (10, false), .p .mov, [.t 13]⟩,
    ⟨12, some 15, some (14, true), .p (.faddr 1), [.t 1]⟩,
    ⟨13, some 16, some (14, true), .l (.load 1 false 1), [.t 15]⟩,
    ⟨14, some 17, some (14, true), .e .call [] [], [.f 100, .t 16]⟩,
    ⟨15, some 18, some (10, false), .p .pick, [.t 14, .t 17, .c (.bool false)]⟩,
    ⟨16, some 19, none, .p .pick, [.t 10, .c (.bool true), .t 18]⟩,
    ⟨17, some 2, none, .p .mov, [.t 19]⟩])
   (.ret)),
  [.tmp 2]⟩
/- loop.example/g00641/spec.GoodValue -/
def g26 : GL.Fn := ⟨.seq (.reg 0 [⟨0, some 1, none, .l (.box 1 2), [.t 0]⟩,
    ⟨1, some 2, none, .p .mov, [.c (.bool false)]⟩])
   (.seq (.reg 0 [⟨0, some 3, none, .p (.faddr 1), [.t 1]⟩,
    ⟨1, some 4, none, .l (.load 1 false 1), [.t 3]⟩,
    ⟨2, some 5, none, .e .call [] [], [.f 98, .t 4, .c (.int .i64 (-1000)), .c (.int .i64 1000)]⟩,
    ⟨3, some 6, none, .p .mov, [.t 5]⟩,
    ⟨4, some 7, some (6, true), .p (.faddr 0), [.t 1]⟩,
    ⟨5, some 8, some (6, true), .l (.load 1 false 1), [.t 7]⟩,
    ⟨6, some 9, some (6, true), .p (.un .not), [.t 8]⟩,
    ⟨7, some 10, some (6, true), .p .mov, [.t 9]⟩,
    ⟨8, some 11, some (10, false), .p (.faddr 1), [.t 1]⟩,
    ⟨9, some 12, some (10, false), .l (.load 1 false 1), [.t 11]⟩,
    ⟨10, some 13, some (10, false), .p (.bin .eql), [.t 12, .c (.int .i64 0)]⟩,
    ⟨11, some 14, some (6, true), .p .pick, [.t 10, .c (.bool true), .t 13]⟩,
    ⟨12, some 15, none, .p .pick, [.t 6, .t 14, .c (.bool false)]⟩,
    ⟨13, some 2, none, .p .mov, [.t 15]⟩])
   (.ret)),
  [.tmp 2]⟩
/- loop.example/g00641/spec.DrawSumOf -/
def g28 : GL.Fn := ⟨.seq (.reg 0 [⟨0, some 2, none, .p .mov, [.c (.nils)]⟩])
   (.seq (.reg 0 [⟨0, some 4, none, .p .mov, [.t 0]⟩,
    ⟨1, some 5, none, .p (.build [.nils, .int .i64 0, .int .u64 0] [(0, 1)]), [.t 4]⟩,
    ⟨2, some 6, none, .e (.new (.box 3)) [] [], [.t 5]⟩,
    ⟨3, some 3, none, .p .mov, [.t 6]⟩])
   (.seq (.reg 0 [⟨0, some 7, none, .p .mov, [.t 3]⟩,
    ⟨1, some 8, none, .e .call [] [], [.f 101, .t 7]⟩,
    ⟨2, some 2, none, .p .mov, [.t 8]⟩])
   (.ret))),
  [.tmp 2]⟩
/- loop.example/g00641/impl.SumOf -/
def g29 : GL.Fn := ⟨.seq (.reg 0 [⟨0, some 2, none, .l (.alloc 2 [.int .i64 0, .int .i64 0, .int .i64 0, .bool false, .int .i64 0, .bool false, .int .i64 0]), []⟩,
    ⟨1, some 3, none, .p .mov, [.c (.bool false)]⟩])
   (.seq (.seq (.reg 0 [⟨0, some 4, none, .p .mov, [.t 0]⟩,
    ⟨1, some 5, none, .p .len, [.t 4]⟩,
    ⟨2, some 6, none, .p (.bin .gtr), [.t 5, .c (.int .i64 40)]⟩,
    ⟨3, some 7, none, .p .mov, [.t 6]⟩,
    ⟨4, some 8, some (7, false), .p .mov, [.t 0]⟩,
    ⟨5, some 9, some (7, false), .e .call [] [], [.f 102, .t 8]⟩,
    ⟨6, some 10, some (7, false), .p (.un .not), [.t 9]⟩,
    ⟨7, some 11, none, .p .pick, [.t 7, .c (.bool true), .t 10]⟩])
   (.cond (.t 11) (.seq (.reg 0 [⟨0, some 12, none, .p (.build [.int .i64 0, .int .i64 0, .int .i64 0, .bool false, .int .i64 0, .bool false, .int .i64 0] []), []⟩,
    ⟨1, none, none, .l (.store 2 7), [.t 2, .t 12]⟩,
    ⟨2, some 3, none, .p .mov, [.c (.bool false)]⟩])
   (.ret))
   (.skip)))
   (.seq (.reg 0 [⟨0, some 13, none, .p .mov, [.t 0]⟩,
    ⟨1, some 14, none, .e .call [] [], [.f 103, .t 13]⟩,
    ⟨2, none, none, .l (.store 2 7), [.t 2, .t 14]⟩,
    ⟨3, some 3, none, .p .mov, [.c (.bool true)]⟩])
   (.ret))),
  [.cellL 2 2 true 7, .tmp 3]⟩
/- loop.example/g00641/spec.SumOf -/
def g30_0 : GL.Code := .seq (.reg 0 [⟨0, some 15, none, .p (.bin .lss), [.t 14, .t 13]⟩])
   (.seq (.cond (.t 15) (.skip)
   (.exit 0))
   (.seq (.block 1 (.seq (.reg 0 [⟨0, some 16, none, .p (.idx 2), [.t 12, .t 14]⟩,
    ⟨1, some 17, none, .r (.load true 2) false, [.t 16]⟩,
    ⟨2, some 6, none, .l (.alloc 6 [.bool false, .int .i64 0]), []⟩,
    ⟨3, none, none, .l (.store 6 2), [.t 6, .t 17]⟩])
   (.reg 0 [⟨0, some 18, none, .l (.load 4 true 7), [.t 4]⟩,
    ⟨1, some 19, none, .l (.load 6 true 2), [.t 6]⟩,
    ⟨2, some 20, none, .e .call [] [], [.f 106, .t 18, .t 19]⟩,
    ⟨3, none, none, .l (.store 4 7), [.t 4, .t 20]⟩])))
   (.reg 0 [⟨0, some 21, none, .p (.bin .add), [.t 14, .c (.int .i64 1)]⟩,
    ⟨1, some 14, none, .p .mov, [.t 21]⟩])))
def g30 : GL.Fn := ⟨.seq (.reg 0 [⟨0, some 2, none, .l (.alloc 2 [.int .i64 0, .int .i64 0, .int .i64 0, .bool false, .int .i64 0, .bool false, .int .i64 0]), []⟩,
    ⟨1, some 3, none, .p .mov, [.c (.bool false)]⟩])
   (.seq (.seq (.reg 0 [⟨0, some 7, none, .p .mov, [.t 0]⟩,
    ⟨1, some 8, none, .e .call [] [], [.f 104, .t 7]⟩,
    ⟨2, some 9, none, .p (.un .not), [.t 8]⟩])
   (.cond (.t 9) (.seq (.reg 0 [⟨0, some 10, none, .p (.build [.int .i64 0, .int .i64 0, .int .i64 0, .bool false, .int .i64 0, .bool false, .int .i64 0] []), []⟩,
    ⟨1, none, none, .l (.store 2 7), [.t 2, .t 10]⟩,
    ⟨2, some 3, none, .p .mov, [.c (.bool false)]⟩])
   (.ret))
   (.skip)))
   (.seq (.reg 0 [⟨0, some 11, none, .e .call [] [], [.f 105]⟩,
    ⟨1, some 4, none, .l (.alloc 4 [.int .i64 0, .int .i64 0, .int .i64 0, .bool false, .int .i64 0, .bool false, .int .i64 0]), []⟩,
    ⟨2, none, none, .l (.store 4 7), [.t 4, .t 11]⟩])
   (.seq (.seq (.reg 0 [⟨0, some 12, none, .p .mov, [.t 0]⟩,
    ⟨1, some 13, none, .p .len, [.t 12]⟩,
    ⟨2, some 14, none, .p .mov, [.c (.int .i64 0)]⟩])
   (.block 0 (.loop g30_0)))
   (.seq (.reg 0 [⟨0, some 22, none, .l (.load 4 true 7), [.t 4]⟩,
    ⟨1, none, none, .l (.store 2 7), [.t 2, .t 22]⟩,
    ⟨2, some 3, none, .p .mov, [.c (.bool true)]⟩])
   (.ret))))),
  [.cellL 2 2 true 7, .tmp 3]⟩
/- loop.example/g00641/laws.numberOf -/
def g31_0 : GL.Code := .seq (.reg 0 [⟨0, some 9, none, .p (.bin .lss), [.t 8, .t 7]⟩])
   (.seq (.cond (.t 9) (.skip)
   (.exit 0))
   (.seq (.block 1 (.seq (.reg 0 [⟨0, some 10, none, .p (.idx 1), [.t 6, .t 8]⟩,
    ⟨1, some 11, none, .r (.load false 1) false, [.t 10]⟩,
    ⟨2, some 5, none, .p .mov, [.t 11]⟩])
   (.reg 0 [⟨0, some 12, none, .p .mov, [.t 3]⟩,
    ⟨1, some 13, none, .p (.bin .mul), [.c (.int .i64 31), .t 12]⟩,
    ⟨2, some 14, none, .p .mov, [.t 5]⟩,
    ⟨3, some 15, none, .p (.conv .i64), [.t 14]⟩,
    ⟨4, some 16, none, .p (.bin .add), [.t 13, .t 15]⟩,
    ⟨5, some 17, none, .p (.bin .rem), [.t 16, .c (.int .i64 1000003)]⟩,
    ⟨6, some 3, none, .p .mov, [.t 17]⟩])))
   (.reg 0 [⟨0, some 18, none, .p (.bin .add), [.t 8, .c (.int .i64 1)]⟩,
    ⟨1, some 8, none, .p .mov, [.t 18]⟩])))
def g31 : GL.Fn := ⟨.seq (.reg 0 [⟨0, some 2, none, .p .mov, [.c (.int .i64 0)]⟩])
   (.seq (.reg 0 [⟨0, some 3, none, .p .mov, [.c (.int .i64 0)]⟩])
   (.seq (.seq (.reg 0 [⟨0, some 6, none, .p .mov, [.t 0]⟩,
    ⟨1, some 7, none, .p .len, [.t 6]⟩,
    ⟨2, some 8, none, .p .mov, [.c (.int .i64 0)]⟩])
   (.block 0 (.loop g31_0)))
   (.seq (.reg 0 [⟨0, some 19, none, .p .mov, [.t 3]⟩,
    ⟨1, some 2, none, .p .mov, [.t 19]⟩])
   (.ret)))),
  [.tmp 2]⟩
/- loop.example/g00641/impl.AddSums -/
def g32 : GL.Fn := ⟨.seq (.reg 0 [⟨0, some 2, none, .l (.box 2 7), [.t 0]⟩,
    ⟨1, some 3, none, .l (.box 3 7), [.t 1]⟩,
    ⟨2, some 4, none, .l (.alloc 4 [.int .i64 0, .int .i64 0, .int .i64 0, .bool false, .int .i64 0, .bool false, .int .i64 0]), []⟩,
    ⟨3, some 5, none, .p .mov, [.c (.bool false)]⟩])
   (.seq (.seq (.reg 0 [⟨0, some 7, none, .l (.load 2 true 7), [.t 2]⟩,
    ⟨1, some 8, none, .e .call [] [], [.f 34, .t 7]⟩,
    ⟨2, some 9, none, .p (.un .not), [.t 8]⟩,
    ⟨3, some 10, none, .p .mov, [.t 9]⟩,
    ⟨4, some 11, some (10, false), .l (.load 3 true 7), [.t 3]⟩,
    ⟨5, some 12, some (10, false), .e .call [] [], [.f 34, .t 11]⟩,
    ⟨6, some 13, some (10, false), .p (.un .not), [.t 12]⟩,
    ⟨7, some 14, none, .p .pick, [.t 10, .c (.bool true), .t 13]⟩])
   (.cond (.t 14) (.seq (.reg 0 [⟨0, some 15, none, .p (.build [.int .i64 0, .int .i64 0, .int .i64 0, .bool false, .int .i64 0, .bool false, .int .i64 0] []), []⟩,
    ⟨1, none, none, .l (.store 4 7), [.t 4, .t 15]⟩,
    ⟨2, some 5, none, .p .mov, [.c (.bool false)]⟩])
   (.ret))
   (.skip)))
   (.seq (.reg 0 [⟨0, some 16, none, .p (.faddr 0), [.t 2]⟩,
    ⟨1, some 17, none, .l (.load 2 false 1), [.t 16]⟩,
    ⟨2, some 18, none, .p (.faddr 0), [.t 3]⟩,
    ⟨3, some 19, none, .l (.load 3 false 1), [.t 18]⟩,
    ⟨4, some 20, none, .p (.bin .add), [.t 17, .t 19]⟩,
    ⟨5, some 21, none, .p (.faddr 1), [.t 2]⟩,
    ⟨6, some 22, none, .l (.load 2 false 1), [.t 21]⟩,
    ⟨7, some 23, none, .p (.faddr 1), [.t 3]⟩,
    ⟨8, some 24, none, .l (.load 3 false 1), [.t 23]⟩,
    ⟨9, some 25, none, .p (.bin .add), [.t 22, .t 24]⟩,
    ⟨10, some 26, none, .p (.faddr 2), [.t 2]⟩,
    ⟨11, some 27, none, .l (.load 2 false 1), [.t 26]⟩,
    ⟨12, some 28, none, .p (.faddr 2), [.t 3]⟩,
    ⟨13, some 29, none, .l (.load 3 false 1), [.t 28]⟩,
    ⟨14, some 30, none, .p (.bin .add), [.t 27, .t 29]⟩,
    ⟨15, some 31, none, .p (.faddr 3), [.t 2]⟩,
    ⟨16, some 32, none, .l (.load 2 true 2), [.t 31]⟩,
    ⟨17, some 33, none, .p (.faddr 5), [.t 2]⟩,
    ⟨18, some 34, none, .l (.load 2 true 2), [.t 33]⟩,
    ⟨19, some 35, none, .p (.build [.int .i64 0, .int .i64 0, .int .i64 0, .bool false, .int .i64 0, .bool false, .int .i64 0] [(0, 1), (1, 1), (2, 1), (3, 2), (5, 2)]), [.t 20, .t 25, .t 30, .t 32, .t 34]⟩,
    ⟨20, some 6, none, .l (.alloc 6 [.int .i64 0, .int .i64 0, .int .i64 0, .bool false, .int .i64 0, .bool false, .int .i64 0]), []⟩,
    ⟨21, none, none, .l (.store 6 7), [.t 6, .t 35]⟩])
   (.seq (.block 0 (.seq (.reg 0 [⟨0, some 37, none, .p (.faddr 1), [.t 2]⟩,
    ⟨1, some 38, none, .l (.load 2 false 1), [.t 37]⟩,
    ⟨2, some 39, none, .p (.bin .eql), [.t 38, .c (.int .i64 0)]⟩,
    ⟨3, some 36, none, .p .mov, [.t 39]⟩])
   (.cond (.t 36) (.reg 0 [⟨0, some 40, none, .p (.faddr 3), [.t 3]⟩,
    ⟨1, some 41, none, .l (.load 3 true 2), [.t 40]⟩,
    ⟨2, some 42, none, .p (.faddr 5), [.t 3]⟩,
    ⟨3, some 43, none, .l (.load 3 true 2), [.t 42]⟩,
    ⟨4, some 44, none, .p (.faddr 3), [.t 6]⟩,
    ⟨5, none, none, .l (.store 6 2), [.t 44, .t 41]⟩,
    ⟨6, some 45, none, .p (.faddr 5), [.t 6]⟩,
    ⟨7, none, none, .l (.store 6 2), [.t 45, .t 43]⟩])
   (.seq (.reg 0 [⟨0, some 47, none, .p (.faddr 1), [.t 3]⟩,
    ⟨1, some 48, none, .l (.load 3 false 1), [.t 47]⟩,
    ⟨2, some 49, none, .p (.bin .gtr), [.t 48, .c (.int .i64 0)]⟩,
    ⟨3, some 46, none, .p .mov, [.t 49]⟩])
   (.cond (.t 46) (.reg 0 [⟨0, some 50, none, .p (.faddr 3), [.t 2]⟩,
    ⟨1, some 51, none, .p (.faddr 1), [.t 50]⟩,
    ⟨2, some 52, none, .l (.load 2 false 1), [.t 51]⟩,
    ⟨3, some 53, none, .p (.faddr 3), [.t 3]⟩,
    ⟨4, some 54, none, .p (.faddr 1), [.t 53]⟩,
    ⟨5, some 55, none, .l (.load 3 false 1), [.t 54]⟩,
    ⟨6, some 56, none, .p .min2, [.t 52, .t 55]⟩,
    ⟨7, some 57, none, .p (.faddr 5), [.t 2]⟩,
    ⟨8, some 58, none, .p (.faddr 1), [.t 57]⟩,
    ⟨9, some 59, none, .l (.load 2 false 1), [.t 58]⟩,
    ⟨10, some 60, none, .p (.faddr 5), [.t 3]⟩,
    ⟨11, some 61, none, .p (.faddr 1), [.t 60]⟩,
    ⟨12, some 62, none, .l (.load 3 false 1), [.t 61]⟩,
    ⟨13, some 63, none, .p .max2, [.t 59, .t 62]⟩,
    ⟨14, some 64, none, .p (.faddr 3), [.t 6]⟩,
    ⟨15, some 65, none, .p (.faddr 1), [.t 64]⟩,
    ⟨16, none, none, .l (.store 6 1), [.t 65, .t 56]⟩,
    ⟨17, some 66, none, .p (.faddr 5), [.t 6]⟩,
    ⟨18, some 67, none, .p (.faddr 1), [.t 66]⟩,
    ⟨19, none, none, .l (.store 6 1), [.t 67, .t 63]⟩])
   (.skip))))))
   (.seq (.seq (.reg 0 [⟨0, some 68, none, .l (.load 6 true 7), [.t 6]⟩,
    ⟨1, some 69, none, .e .call [] [], [.f 34, .t 68]⟩,
    ⟨2, some 70, none, .p (.un .not), [.t 69]⟩])
   (.cond (.t 70) (.seq (.reg 0 [⟨0, some 71, none, .p (.build [.int .i64 0, .int .i64 0, .int .i64 0, .bool false, .int .i64 0, .bool false, .int .i64 0] []), []⟩,
    ⟨1, none, none, .l (.store 4 7), [.t 4, .t 71]⟩,
    ⟨2, some 5, none, .p .mov, [.c (.bool false)]⟩])
   (.ret))
   (.skip)))
   (.seq (.reg 0 [⟨0, some 72, none, .l (.load 6 true 7), [.t 6]⟩,
    ⟨1, none, none, .l (.store 4 7), [.t 4, .t 72]⟩,
    ⟨2, some 5, none, .p .mov, [.c (.bool true)]⟩])
   (.ret)))))),
  [.cellL 4 4 true 7, .tmp 5]⟩
/- loop.example/g00641/impl.MeanOf -/
def g33 : GL.Fn := ⟨.seq (.reg 0 [⟨0, some 1, none, .l (.box 1 7), [.t 0]⟩,
    ⟨1, some 2, none, .l (.alloc 2 [.bool false, .int .i64 0]), []⟩,
    ⟨2, some 3, none, .p .mov, [.c (.bool false)]⟩])
   (.seq (.seq (.reg 0 [⟨0, some 5, none, .l (.load 1 true 7), [.t 1]⟩,
    ⟨1, some 6, none, .e .call [] [], [.f 34, .t 5]⟩,
    ⟨2, some 7, none, .p (.un .not), [.t 6]⟩])
   (.cond (.t 7) (.seq (.reg 0 [⟨0, some 8, none, .p (.build [.bool false, .int .i64 0] []), []⟩,
    ⟨1, none, none, .l (.store 2 2), [.t 2, .t 8]⟩,
    ⟨2, some 3, none, .p .mov, [.c (.bool false)]⟩])
   (.ret))
   (.skip)))
   (.seq (.seq (.reg 0 [⟨0, some 9, none, .p (.faddr 1), [.t 1]⟩,
    ⟨1, some 10, none, .l (.load 1 false 1), [.t 9]⟩,
    ⟨2, some 11, none, .p (.bin .eql), [.t 10, .c (.int .i64 0)]⟩])
   (.cond (.t 11) (.seq (.reg 0 [⟨0, some 12, none, .p (.build [.bool false, .int .i64 0] [(0, 1)]), [.c (.bool true)]⟩,
    ⟨1, none, none, .l (.store 2 2), [.t 2, .t 12]⟩,
    ⟨2, some 3, none, .p .mov, [.c (.bool true)]⟩])
   (.ret))
   (.skip)))
   (.seq (.reg 0 [⟨0, some 13, none, .p (.faddr 2), [.t 1]⟩,
    ⟨1, some 14, none, .l (.load 1 false 1), [.t 13]⟩,
    ⟨2, some 15, none, .p (.faddr 1), [.t 1]⟩,
    ⟨3, some 16, none, .l (.load 1 false 1), [.t 15]⟩,
    ⟨4, some 17, none, .p (.bin .quo), [.t 14, .t 16]⟩,
    ⟨5, some 4, none, .p .mov, [.t 17]⟩])
   (.seq (.seq (.reg 0 [⟨0, some 18, none, .p (.faddr 2), [.t 1]⟩,
    ⟨1, some 19, none, .l (.load 1 false 1), [.t 18]⟩,
    ⟨2, some 20, none, .p (.faddr 1), [.t 1]⟩,
    ⟨3, some 21, none, .l (.load 1 false 1), [.t 20]⟩,
    ⟨4, some 22, none, .p (.bin .rem), [.t 19, .t 21]⟩,
    ⟨5, some 23, none, .p (.bin .lss), [.t 22, .c (.int .i64 0)]⟩])
   (.cond (.t 23) (.reg 0 [⟨0, some 24, none, .p .mov, [.t 4]⟩,
    ⟨1, some 25, none, .p (.bin .sub), [.t 24, .c (.int .i64 1)]⟩,
    ⟨2, some 4, none, .p .mov, [.t 25]⟩])
   (.skip)))
   (.seq (.reg 0 [⟨0, some 26, none, .p .mov, [.t 4]⟩,
    ⟨1, some 27, none, .p (.build [.bool false, .int .i64 0] [(1, 1)]), [.t 26]⟩,
    ⟨2, none, none, .l (.store 2 2), [.t 2, .t 27]⟩,
    ⟨3, some 3, none, .p .mov, [.c (.bool true)]⟩])
   (.ret)))))),
  [.cellL 2 2 true 2, .tmp 3]⟩
/- loop.example/g00641/impl.GoodSum -/
def g34 : GL.Fn := ⟨.seq (.reg 0 [⟨0, some 1, none, .l (.box 1 7), [.t 0]⟩,
    ⟨1, some 2, none, .p .mov, [.c (.bool false)]⟩])
   (.seq (.seq (.reg 0 [⟨0, some 3, none, .p (.faddr 0), [.t 1]⟩,
    ⟨1, some 4, none, .l (.load 1 false 1), [.t 3]⟩,
    ⟨2, some 5, none, .e .call [] [], [.f 107, .t 4, .c (.int .i64 0), .c (.int .i64 10000)]⟩,
    ⟨3, some 6, none, .p (.un .not), [.t 5]⟩,
    ⟨4, some 7, none, .p .mov, [.t 6]⟩,
    ⟨5, some 8, some (7, false), .p (.faddr 1), [.t 1]⟩,
    ⟨6, some 9, some (7, false), .l (.load 1 false 1), [.t 8]⟩,
    ⟨7, some 10, some (7, false), .p (.faddr 0), [.t 1]⟩,
    ⟨8, some 11, some (7, false), .l (.load 1 false 1), [.t 10]⟩,
    ⟨9, some 12, some (7, false), .e .call [] [], [.f 107, .t 9, .c (.int .i64 0), .t 11]⟩,
    ⟨10, some 13, some (7, false), .p (.un .not), [.t 12]⟩,
    ⟨11, some 14, none, .p .pick, [.t 7, .c (.bool true), .t 13]⟩,
    ⟨12, some 15, none, .p .mov, [.t 14]⟩,
    ⟨13, some 16, some (15, false), .p (.faddr 2), [.t 1]⟩,
    ⟨14, some 17, some (15, false), .l (.load 1 false 1), [.t 16]⟩,
    ⟨15, some 18, some (15, false), .e .call [] [], [.f 107, .t 17, .c (.int .i64 (-1000000)), .c (.int .i64 1000000)]⟩,
    ⟨16, some 19, some (15, false), .p (.un .not), [.t 18]⟩,
    ⟨17, some 20, none, .p .pick, [.t 15, .c (.bool true), .t 19]⟩,
    ⟨18, some 21, none, .p .mov, [.t 20]⟩,
    ⟨19, some 22, some (21, false), .p (.faddr 3), [.t 1]⟩,
    ⟨20, some 23, some (21, false), .l (.load 1 true 2), [.t 22]⟩,
    ⟨21, some 24, some (21, false), .e .call [] [], [.f 25, .t 23]⟩,
    ⟨22, some 25, some (21, false), .p (.un .not), [.t 24]⟩,
    ⟨23, some 26, none, .p .pick, [.t 21, .c (.bool true), .t 25]⟩,
    ⟨24, some 27, none, .p .mov, [.t 26]⟩,
    ⟨25, some 28, some (27, false), .p (.faddr 5), [.t 1]⟩,
    ⟨26, some 29, some (27, false), .l (.load 1 true 2), [.t 28]⟩,
    ⟨27, some 30, some (27, false), .e .call [] [], [.f 25, .t 29]⟩,
    ⟨28, some 31, some (27, false), .p (.un .not), [.t 30]⟩,
    ⟨29, some 32, none, .p .pick, [.t 27, .c (.bool true), .t 31]⟩])
   (.cond (.t 32) (.seq (.reg 0 [⟨0, some 2, none, .p .mov, [.c (.bool false)]⟩])
   (.ret))
   (.skip)))
   (.seq (.seq (.reg 0 [⟨0, some 33, none, .p (.faddr 1), [.t 1]⟩,
    ⟨1, some 34, none, .l (.load 1 false 1), [.t 33]⟩,
    ⟨2, some 35, none, .p (.bin .eql), [.t 34, .c (.int .i64 0)]⟩])
   (.cond (.t 35) (.seq (.reg 0 [⟨0, some 36, none, .p (.faddr 3), [.t 1]⟩,
    ⟨1, some 37, none, .p (.faddr 0), [.t 36]⟩,
    ⟨2, some 38, none, .l (.load 1 false 1), [.t 37]⟩,
    ⟨3, some 39, none, .p .mov, [.t 38]⟩,
    ⟨4, some 40, some (39, true), .p (.faddr 5), [.t 1]⟩,
    ⟨5, some 41, some (39, true), .p (.faddr 0), [.t 40]⟩,
    ⟨6, some 42, some (39, true), .l (.load 1 false 1), [.t 41]⟩,
    ⟨7, some 43, none, .p .pick, [.t 39, .t 42, .c (.bool false)]⟩,
    ⟨8, some 44, none, .p .mov, [.t 43]⟩,
    ⟨9, some 45, some (44, true), .p (.faddr 2), [.t 1]⟩,
    ⟨10, some 46, some (44, true), .l (.load 1 false 1), [.t 45]⟩,
    ⟨11, some 47, some (44, true), .p (.bin .eql), [.t 46, .c (.int .i64 0)]⟩,
    ⟨12, some 48, none, .p .pick, [.t 44, .t 47, .c (.bool false)]⟩,
    ⟨13, some 2, none, .p .mov, [.t 48]⟩])
   (.ret))
   (.skip)))
   (.seq (.reg 0 [⟨0, some 49, none, .p (.faddr 3), [.t 1]⟩,
    ⟨1, some 50, none, .p (.faddr 0), [.t 49]⟩,
    ⟨2, some 51, none, .l (.load 1 false 1), [.t 50]⟩,
    ⟨3, some 52, none, .p (.un .not), [.t 51]⟩,
    ⟨4, some 53, none, .p .mov, [.t 52]⟩,
    ⟨5, some 54, some (53, true), .p (.faddr 5), [.t 1]⟩,
    ⟨6, some 55, some (53, true), .p (.faddr 0), [.t 54]⟩,
    ⟨7, some 56, some (53, true), .l (.load 1 false 1), [.t 55]⟩,
    ⟨8, some 57, some (53, true), .p (.un .not), [.t 56]⟩,
    ⟨9, some 58, none, .p .pick, [.t 53, .t 57, .c (.bool false)]⟩,
    ⟨10, some 59, none, .p .mov, [.t 58]⟩,
    ⟨11, some 60, some (59, true), .p (.faddr 3), [.t 1]⟩,
    ⟨12, some 61, some (59, true), .p (.faddr 1), [.t 60]⟩,
    ⟨13, some 62, some (59, true), .l (.load 1 false 1), [.t 61]⟩,
    ⟨14, some 63, some (59, true), .p (.faddr 5), [.t 1]⟩,
    ⟨15, some 64, some (59, true), .p (.faddr 1), [.t 63]⟩,
    ⟨16, some 65, some (59, true), .l (.load 1 false 1), [.t 64]⟩,
    ⟨17, some 66, some (59, true), .p (.bin .leq), [.t 62, .t 65]⟩,
    ⟨18, some 67, none, .p .pick, [.t 59, .t 66, .c (.bool false)]⟩,
    ⟨19, some 68, none, .p .mov, [.t 67]⟩,
    ⟨20, some 69, some (68, true), .p (.faddr 2), [.t 1]⟩,
    ⟨21, some 70, some (68, true), .l (.load 1 false 1), [.t 69]⟩,
    ⟨22, some 71, some (68, true), .p (.faddr 1), [.t 1]⟩,
    ⟨23, some 72, some (68, true), .l (.load 1 false 1), [.t 71]⟩,
    ⟨24, some 73, some (68, true), .p (.faddr 3), [.t 1]⟩,
    ⟨25, some 74, some (68, true), .p (.faddr 1), [.t 73]⟩,
    ⟨26, some 75, some (68, true), .l (.load 1 false 1), [.t 74]⟩,
    ⟨27, some 76, some (68, true), .p (.bin .mul), [.t 72, .t 75]⟩,
    ⟨28, some 77, some (68, true), .p (.faddr 1), [.t 1]⟩,
    ⟨29, some 78, some (68, true), .l (.load 1 false 1), [.t 77]⟩,
    ⟨30, some 79, some (68, true), .p (.faddr 5), [.t 1]⟩,
    ⟨31, some 80, some (68, true), .p (.faddr 1), [.t 79]⟩,
    ⟨32, some 81, some (68, true), .l (.load 1 false 1), [.t 80]⟩,
    ⟨33, some 82, some (68, true), .p (.bin .mul), [.t 78, .t 81]⟩,
    ⟨34, some 83, some (68, true), .e .call [] [], [.f 107, .t 70, .t 76, .t 82]⟩,
    ⟨35, some 84, none, .p .pick, [.t 68, .t 83, .c (.bool false)]⟩,
    ⟨36, some 2, none, .p .mov, [.t 84]⟩])
   (.ret)))),
  [.tmp 2]⟩
/- loop.example/g00641/spec.DrawAddSums -/
def g35 : GL.Fn := ⟨.seq (.reg 0 [⟨0, some 2, none, .l (.alloc 2 [.int .i64 0, .int .i64 0, .int .i64 0, .bool false, .int .i64 0, .bool false, .int .i64 0]), []⟩,
    ⟨1, some 3, none, .l (.alloc 3 [.int .i64 0, .int .i64 0, .int .i64 0, .bool false, .int .i64 0, .bool false, .int .i64 0]), []⟩])
   (.seq (.reg 0 [⟨0, some 5, none, .p .mov, [.t 0]⟩,
    ⟨1, some 6, none, .p (.build [.nils, .int .i64 0, .int .u64 0] [(0, 1)]), [.t 5]⟩,
    ⟨2, some 7, none, .e (.new (.box 3)) [] [], [.t 6]⟩,
    ⟨3, some 4, none, .p .mov, [.t 7]⟩])
   (.seq (.reg 0 [⟨0, some 8, none, .p .mov, [.t 4]⟩,
    ⟨1, some 9, none, .e .call [] [], [.f 108, .t 8]⟩,
    ⟨2, some 10, none, .p .mov, [.t 4]⟩,
    ⟨3, some 11, none, .e .call [] [], [.f 108, .t 10]⟩,
    ⟨4, none, none, .l (.store 2 7), [.t 2, .t 9]⟩,
    ⟨5, none, none, .l (.store 3 7), [.t 3, .t 11]⟩])
   (.ret))),
  [.cellL 2 2 true 7, .cellL 3 3 true 7]⟩
/- loop.example/g00641/spec.AddSums -/
def g36 : GL.Fn := ⟨.seq (.reg 0 [⟨0, some 2, none, .l (.box 2 7), [.t 0]⟩,
    ⟨1, some 3, none, .l (.box 3 7), [.t 1]⟩,
    ⟨2, some 4, none, .l (.alloc 4 [.int .i64 0, .int .i64 0, .int .i64 0, .bool false, .int .i64 0, .bool false, .int .i64 0]), []⟩,
    ⟨3, some 5, none, .p .mov, [.c (.bool false)]⟩])
   (.seq (.seq (.reg 0 [⟨0, some 7, none, .l (.load 2 true 7), [.t 2]⟩,
    ⟨1, some 8, none, .e .call [] [], [.f 39, .t 7]⟩,
    ⟨2, some 9, none, .p (.un .not), [.t 8]⟩,
    ⟨3, some 10, none, .p .mov, [.t 9]⟩,
    ⟨4, some 11, some (10, false), .l (.load 3 true 7), [.t 3]⟩,
    ⟨5, some 12, some (10, false), .e .call [] [], [.f 39, .t 11]⟩,
    ⟨6, some 13, some (10, false), .p (.un .not), [.t 12]⟩,
    ⟨7, some 14, none, .p .pick, [.t 10, .c (.bool true), .t 13]⟩])
   (.cond (.t 14) (.seq (.reg 0 [⟨0, some 15, none, .p (.build [.int .i64 0, .int .i64 0, .int .i64 0, .bool false, .int .i64 0, .bool false, .int .i64 0] []), []⟩,
    ⟨1, none, none, .l (.store 4 7), [.t 4, .t 15]⟩,
    ⟨2, some 5, none, .p .mov, [.c (.bool false)]⟩])
   (.ret))
   (.skip)))
   (.seq (.reg 0 [⟨0, some 16, none, .p (.faddr 0), [.t 2]⟩,
    ⟨1, some 17, none, .l (.load 2 false 1), [.t 16]⟩,
    ⟨2, some 18, none, .p (.faddr 0), [.t 3]⟩,
    ⟨3, some 19, none, .l (.load 3 false 1), [.t 18]⟩,
    ⟨4, some 20, none, .p (.bin .add), [.t 17, .t 19]⟩,
    ⟨5, some 21, none, .p (.faddr 1), [.t 2]⟩,
    ⟨6, some 22, none, .l (.load 2 false 1), [.t 21]⟩,
    ⟨7, some 23, none, .p (.faddr 1), [.t 3]⟩,
    ⟨8, some 24, none, .l (.load 3 false 1), [.t 23]⟩,
    ⟨9, some 25, none, .p (.bin .add), [.t 22, .t 24]⟩,
    ⟨10, some 26, none, .p (.faddr 2), [.t 2]⟩,
    ⟨11, some 27, none, .l (.load 2 false 1), [.t 26]⟩,
    ⟨12, some 28, none, .p (.faddr 2), [.t 3]⟩,
    ⟨13, some 29, none, .l (.load 3 false 1), [.t 28]⟩,
    ⟨14, some 30, none, .p (.bin .add), [.t 27, .t 29]⟩,
    ⟨15, some 31, none, .p (.faddr 3), [.t 2]⟩,
    ⟨16, some 32, none, .l (.load 2 true 2), [.t 31]⟩,
    ⟨17, some 33, none, .p (.faddr 5), [.t 2]⟩,
    ⟨18, some 34, none, .l (.load 2 true 2), [.t 33]⟩,
    ⟨19, some 35, none, .p (.build [.int .i64 0, .int .i64 0, .int .i64 0, .bool false, .int .i64 0, .bool false, .int .i64 0] [(0, 1), (1, 1), (2, 1), (3, 2), (5, 2)]), [.t 20, .t 25, .t 30, .t 32, .t 34]⟩,
    ⟨20, some 6, none, .l (.alloc 6 [.int .i64 0, .int .i64 0, .int .i64 0, .bool false, .int .i64 0, .bool false, .int .i64 0]), []⟩,
    ⟨21, none, none, .l (.store 6 7), [.t 6, .t 35]⟩])
   (.seq (.seq (.reg 0 [⟨0, some 36, none, .p (.faddr 1), [.t 2]⟩,
    ⟨1, some 37, none, .l (.load 2 false 1), [.t 36]⟩,
    ⟨2, some 38, none, .p (.bin .eql), [.t 37, .c (.int .i64 0)]⟩,
    ⟨3, some 39, none, .p .mov, [.t 38]⟩,
    ⟨4, some 40, some (39, false), .p (.faddr 1), [.t 3]⟩,
    ⟨5, some 41, some (39, false), .l (.load 3 false 1), [.t 40]⟩,
    ⟨6, some 42, some (39, false), .p (.bin .gtr), [.t 41, .c (.int .i64 0)]⟩,
    ⟨7, some 43, some (39, false), .p .mov, [.t 42]⟩,
    ⟨8, some 44, some (43, true), .p (.faddr 3), [.t 3]⟩,
    ⟨9, some 45, some (43, true), .p (.faddr 1), [.t 44]⟩,
    ⟨10, some 46, some (43, true), .l (.load 3 false 1), [.t 45]⟩,
    ⟨11, some 47, some (43, true), .p (.faddr 3), [.t 2]⟩,
    ⟨12, some 48, some (43, true), .p (.faddr 1), [.t 47]⟩,
    ⟨13, some 49, some (43, true), .l (.load 2 false 1), [.t 48]⟩,
    ⟨14, some 50, some (43, true), .p (.bin .lss), [.t 46, .t 49]⟩,
    ⟨15, some 51, some (39, false), .p .pick, [.t 43, .t 50, .c (.bool false)]⟩,
    ⟨16, some 52, none, .p .pick, [.t 39, .c (.bool true), .t 51]⟩])
   (.cond (.t 52) (.reg 0 [⟨0, some 53, none, .p (.faddr 3), [.t 3]⟩,
    ⟨1, some 54, none, .l (.load 3 true 2), [.t 53]⟩,
    ⟨2, some 55, none, .p (.faddr 3), [.t 6]⟩,
    ⟨3, none, none, .l (.store 6 2), [.t 55, .t 54]⟩])
   (.skip)))
   (.seq (.seq (.reg 0 [⟨0, some 56, none, .p (.faddr 1), [.t 2]⟩,
    ⟨1, some 57, none, .l (.load 2 false 1), [.t 56]⟩,
    ⟨2, some 58, none, .p (.bin .eql), [.t 57, .c (.int .i64 0)]⟩,
    ⟨3, some 59, none, .p .mov, [.t 58]⟩,
    ⟨4, some 60, some (59, false), .p (.faddr 1), [.t 3]⟩,
    ⟨5, some 61, some (59, false), .l (.load 3 false 1), [.t 60]⟩,
    ⟨6, some 62, some (59, false), .p (.bin .gtr), [.t 61, .c (.int .i64 0)]⟩,
    ⟨7, some 63, some (59, false), .p .mov, [.t 62]⟩,
    ⟨8, some 64, some (63, true), .p (.faddr 5), [.t 3]⟩,
    ⟨9, some 65, some (63, true), .p (.faddr 1), [.t 64]⟩,
    ⟨10, some 66, some (63, true), .l (.load 3 false 1), [.t 65]⟩,
    ⟨11, some 67, some (63, true), .p (.faddr 5), [.t 2]⟩,
    ⟨12, some 68, some (63, true), .p (.faddr 1), [.t 67]⟩,
    ⟨13, some 69, some (63, true), .l (.load 2 false 1), [.t 68]⟩,
    ⟨14, some 70, some (63, true), .p (.bin .gtr), [.t 66, .t 69]⟩,
    ⟨15, some 71, some (59, false), .p .pick, [.t 63, .t 70, .c (.bool false)]⟩,
    ⟨16, some 72, none, .p .pick, [.t 59, .c (.bool true), .t 71]⟩])
   (.cond (.t 72) (.reg 0 [⟨0, some 73, none, .p (.faddr 5), [.t 3]⟩,
    ⟨1, some 74, none, .l (.load 3 true 2), [.t 73]⟩,
    ⟨2, some 75, none, .p (.faddr 5), [.t 6]⟩,
    ⟨3, none, none, .l (.store 6 2), [.t 75, .t 74]⟩])
   (.skip)))
   (.seq (.seq (.reg 0 [⟨0, some 76, none, .l (.load 6 true 7), [.t 6]⟩,
    ⟨1, some 77, none, .e .call [] [], [.f 39, .t 76]⟩,
    ⟨2, some 78, none, .p (.un .not), [.t 77]⟩])
   (.cond (.t 78) (.seq (.reg 0 [⟨0, some 79, none, .p (.build [.int .i64 0, .int .i64 0, .int .i64 0, .bool false, .int .i64 0, .bool false, .int .i64 0] []), []⟩,
    ⟨1, none, none, .l (.store 4 7), [.t 4, .t 79]⟩,
    ⟨2, some 5, none, .p .mov, [.c (.bool false)]⟩])
   (.ret))
   (.skip)))
   (.seq (.reg 0 [⟨0, some 80, none, .l (.load 6 true 7), [.t 6]⟩,
    ⟨1, none, none, .l (.store 4 7), [.t 4, .t 80]⟩,
    ⟨2, some 5, none, .p .mov, [.c (.bool true)]⟩])
   (.ret))))))),
  [.cellL 4 4 true 7, .tmp 5]⟩
/- loop.example/g00641/spec.DrawMeanOf -/
def g37 : GL.Fn := ⟨.seq (.reg 0 [⟨0, some 2, none, .l (.alloc 2 [.int .i64 0, .int .i64 0, .int .i64 0, .bool false, .int .i64 0, .bool false, .int .i64 0]), []⟩])
   (.seq (.reg 0 [⟨0, some 3, none, .p .mov, [.t 0]⟩,
    ⟨1, some 4, none, .e .call [] [], [.f 109, .t 3]⟩,
    ⟨2, none, none, .l (.store 2 7), [.t 2, .t 4]⟩])
   (.ret)),
  [.cellL 2 2 true 7]⟩
/- loop.example/g00641/spec.MeanOf -/
def g38 : GL.Fn := ⟨.seq (.reg 0 [⟨0, some 1, none, .l (.box 1 7), [.t 0]⟩,
    ⟨1, some 2, none, .l (.alloc 2 [.bool false, .int .i64 0]), []⟩,
    ⟨2, some 3, none, .p .mov, [.c (.bool false)]⟩])
   (.seq (.seq (.reg 0 [⟨0, some 5, none, .l (.load 1 true 7), [.t 1]⟩,
    ⟨1, some 6, none, .e .call [] [], [.f 39, .t 5]⟩,
    ⟨2, some 7, none, .p (.un .not), [.t 6]⟩])
   (.cond (.t 7) (.seq (.reg 0 [⟨0, some 8, none, .p (.build [.bool false, .int .i64 0] []), []⟩,
    ⟨1, none, none, .l (.store 2 2), [.t 2, .t 8]⟩,
    ⟨2, some 3, none, .p .mov, [.c (.bool false)]⟩])
   (.ret))
   (.skip)))
   (.seq (.seq (.reg 0 [⟨0, some 9, none, .p (.faddr 1), [.t 1]⟩,
    ⟨1, some 10, none, .l (.load 1 false 1), [.t 9]⟩,
    ⟨2, some 11, none, .p (.bin .eql), [.t 10, .c (.int .i64 0)]⟩])
   (.cond (.t 11) (.seq (.reg 0 [⟨0, some 12, none, .p (.build [.bool false, .int .i64 0] [(0, 1)]), [.c (.bool true)]⟩,
    ⟨1, none, none, .l (.store 2 2), [.t 2, .t 12]⟩,
    ⟨2, some 3, none, .p .mov, [.c (.bool true)]⟩])
   (.ret))
   (.skip)))
   (.seq (.reg 0 [⟨0, some 13, none, .p (.faddr 2), [.t 1]⟩,
    ⟨1, some 14, none, .l (.load 1 false 1), [.t 13]⟩,
    ⟨2, some 15, none, .p (.faddr 1), [.t 1]⟩,
    ⟨3, some 16, none, .l (.load 1 false 1), [.t 15]⟩,
    ⟨4, some 17, none, .p (.bin .quo), [.t 14, .t 16]⟩,
    ⟨5, some 4, none, .p .mov, [.t 17]⟩])
   (.seq (.seq (.reg 0 [⟨0, some 18, none, .p (.faddr 2), [.t 1]⟩,
    ⟨1, some 19, none, .l (.load 1 false 1), [.t 18]⟩,
    ⟨2, some 20, none, .p (.faddr 1), [.t 1]⟩,
    ⟨3, some 21, none, .l (.load 1 false 1), [.t 20]⟩,
    ⟨4, some 22, none, .p (.bin .rem), [.t 19, .t 21]⟩,
    ⟨5, some 23, none, .p (.bin .lss), [.t 22, .c (.int .i64 0)]⟩])
   (.cond (.t 23) (.reg 0 [⟨0, some 24, none, .p .mov, [.t 4]⟩,
    ⟨1, some 25, none, .p (.bin .sub), [.t 24, .c (.int .i64 1)]⟩,
    ⟨2, some 4, none, .p .mov, [.t 25]⟩])
   (.skip)))
   (.seq (.reg 0 [⟨0, some 26, none, .p .mov, [.t 4]⟩,
    ⟨1, some 27, none, .p (.build [.bool false, .int .i64 0] [(1, 1)]), [.t 26]⟩,
    ⟨2, none, none, .l (.store 2 2), [.t 2, .t 27]⟩,
    ⟨3, some 3, none, .p .mov, [.c (.bool true)]⟩])
   (.ret)))))),
  [.cellL 2 2 true 2, .tmp 3]⟩
/- loop.example/g00641/spec.GoodSum -/
def g39 : GL.Fn := ⟨.seq (.reg 0 [⟨0, some 1, none, .l (.box 1 7), [.t 0]⟩,
    ⟨1, some 2, none, .p .mov, [.c (.bool false)]⟩])
   (.seq (.seq (.reg 0 [⟨0, some 3, none, .p (.faddr 0), [.t 1]⟩,
    ⟨1, some 4, none, .l (.load 1 false 1), [.t 3]⟩,
    ⟨2, some 5, none, .e .call [] [], [.f 98, .t 4, .c (.int .i64 0), .c (.int .i64 10000)]⟩,
    ⟨3, some 6, none, .p (.un .not), [.t 5]⟩,
    ⟨4, some 7, none, .p .mov, [.t 6]⟩,
    ⟨5, some 8, some (7, false), .p (.faddr 1), [.t 1]⟩,
    ⟨6, some 9, some (7, false), .l (.load 1 false 1), [.t 8]⟩,
    ⟨7, some 10, some (7, false), .p (.faddr 0), [.t 1]⟩,
    ⟨8, some 11, some (7, false), .l (.load 1 false 1), [.t 10]⟩,
    ⟨9, some 12, some (7, false), .e .call [] [], [.f 98, .t 9, .c (.int .i64 0), .t 11]⟩,
    ⟨10, some 13, some (7, false), .p (.un .not), [.t 12]⟩,
    ⟨11, some 14, none, .p .pick, [.t 7, .c (.bool true), .t 13]⟩,
    ⟨12, some 15, none, .p .mov, [.t 14]⟩,
    ⟨13, some 16, some (15, false), .p (.faddr 2), [.t 1]⟩,
    ⟨14, some 17, some (15, false), .l (.load 1 false 1), [.t 16]⟩,
    ⟨15, some 18, some (15, false), .e .call [] [], [.f 98, .t 17, .c (.int .i64 (-1000000)), .c (.int .i64 1000000)]⟩,
    ⟨16, some 19, some (15, false), .p (.un .not), [.t 18]⟩,
    ⟨17, some 20, none, .p .pick, [.t 15, .c (.bool true), .t 19]⟩,
    ⟨18, some 21, none, .p .mov, [.t 20]⟩,
    ⟨19, some 22, some (21, false), .p (.faddr 3), [.t 1]⟩,
    ⟨20, some 23, some (21, false), .l (.load 1 true 2), [.t 22]⟩,
    ⟨21, some 24, some (21, false), .e .call [] [], [.f 26, .t 23]⟩,
    ⟨22, some 25, some (21, false), .p (.un .not), [.t 24]⟩,
    ⟨23, some 26, none, .p .pick, [.t 21, .c (.bool true), .t 25]⟩,
    ⟨24, some 27, none, .p .mov, [.t 26]⟩,
    ⟨25, some 28, some (27, false), .p (.faddr 5), [.t 1]⟩,
    ⟨26, some 29, some (27, false), .l (.load 1 true 2), [.t 28]⟩,
    ⟨27, some 30, some (27, false), .e .call [] [], [.f 26, .t 29]⟩,
    ⟨28, some 31, some (27, false), .p (.un .not), [.t 30]⟩,
    ⟨29, some 32, none, .p .pick, [.t 27, .c (.bool true), .t 31]⟩])
   (.cond (.t 32) (.seq (.reg 0 [⟨0, some 2, none, .p .mov, [.c (.bool false)]⟩])
   (.ret))
   (.skip)))
   (.seq (.seq (.reg 0 [⟨0, some 33, none, .p (.faddr 1), [.t 1]⟩,
    ⟨1, some 34, none, .l (.load 1 false 1), [.t 33]⟩,
    ⟨2, some 35, none, .p (.bin .eql), [.t 34, .c (.int .i64 0)]⟩])
   (.cond (.t 35) (.seq (.reg 0 [⟨0, some 36, none, .p (.faddr 3), [.t 1]⟩,
    ⟨1, some 37, none, .p (.faddr 0), [.t 36]⟩,
    ⟨2, some 38, none, .l (.load 1 false 1), [.t 37]⟩,
    ⟨3, some 39, none, .p .mov, [.t 38]⟩,
    ⟨4, some 40, some (39, true), .p (.faddr 5), [.t 1]⟩,
    ⟨5, some 41, some (39, true), .p (.faddr 0), [.t 40]⟩,
    ⟨6, some 42, some (39, true), .l (.load 1 false 1), [.t 41]⟩,
    ⟨7, some 43, none, .p .pick, [.t 39, .t 42, .c (.bool false)]⟩,
    ⟨8, some 44, none, .p .mov, [.t 43]⟩,
    ⟨9, some 45, some (44, true), .p (.faddr 2), [.t 1]⟩,
    ⟨10, some 46, some (44, true), .l (.load 1 false 1), [.t 45]⟩,
    ⟨11, some 47, some (44, true), .p (.bin .eql), [.t 46, .c (.int .i64 0)]⟩,
    ⟨12, some 48, none, .p .pick, [.t 44, .t 47, .c (.bool false)]⟩,
    ⟨13, some 2, none, .p .mov, [.t 48]⟩])
   (.ret))
   (.skip)))
   (.seq (.reg 0 [⟨0, some 49, none, .p (.faddr 3), [.t 1]⟩,
    ⟨1, some 50, none, .p (.faddr 0), [.t 49]⟩,
    ⟨2, some 51, none, .l (.load 1 false 1), [.t 50]⟩,
    ⟨3, some 52, none, .p (.un .not), [.t 51]⟩,
    ⟨4, some 53, none, .p .mov, [.t 52]⟩,
    ⟨5, some 54, some (53, true), .p (.faddr 5), [.t 1]⟩,
    ⟨6, some 55, some (53, true), .p (.faddr 0), [.t 54]⟩,
    ⟨7, some 56, some (53, true), .l (.load 1 false 1), [.t 55]⟩,
    ⟨8, some 57, some (53, true), .p (.un .not), [.t 56]⟩,
    ⟨9, some 58, none, .p .pick, [.t 53, .t 57, .c (.bool false)]⟩,
    ⟨10, some 59, none, .p .mov, [.t 58]⟩,
    ⟨11, some 60, some (59, true), .p (.faddr 3), [.t 1]⟩,
    ⟨12, some 61, some (59, true), .p (.faddr 1), [.t 60]⟩,
    ⟨13, some 62, some (59, true), .l (.load 1 false 1), [.t 61]⟩,
    ⟨14, some 63, some (59, true), .p (.faddr 5), [.t 1]⟩,
    ⟨15, some 64, some (59, true), .p (.faddr 1), [.t 63]⟩,
    ⟨16, some 65, some (59, true), .l (.load 1 false 1), [.t 64]⟩,
    ⟨17, some 66, some (59, true), .p (.bin .leq), [.t 62, .t 65]⟩,
    ⟨18, some 67, none, .p .pick, [.t 59, .t 66, .c (.bool false)]⟩,
    ⟨19, some 68, none, .p .mov, [.t 67]⟩,
    ⟨20, some 69, some (68, true), .p (.faddr 2), [.t 1]⟩,
    ⟨21, some 70, some (68, true), .l (.load 1 false 1), [.t 69]⟩,
    ⟨22, some 71, some (68, true), .p (.faddr 1), [.t 1]⟩,
    ⟨23, some 72, some (68, true), .l (.load 1 false 1), [.t 71]⟩,
    ⟨24, some 73, some (68, true), .p (.faddr 3), [.t 1]⟩,
    ⟨25, some 74, some (68, true), .p (.faddr 1), [.t 73]⟩,
    ⟨26, some 75, some (68, true), .l (.load 1 false 1), [.t 74]⟩,
    ⟨27, some 76, some (68, true), .p (.bin .mul), [.t 72, .t 75]⟩,
    ⟨28, some 77, some (68, true), .p (.faddr 1), [.t 1]⟩,
    ⟨29, some 78, some (68, true), .l (.load 1 false 1), [.t 77]⟩,
    ⟨30, some 79, some (68, true), .p (.faddr 5), [.t 1]⟩,
    ⟨31, some 80, some (68, true), .p (.faddr 1), [.t 79]⟩,
    ⟨32, some 81, some (68, true), .l (.load 1 false 1), [.t 80]⟩,
    ⟨33, some 82, some (68, true), .p (.bin .mul), [.t 78, .t 81]⟩,
    ⟨34, some 83, some (68, true), .e .call [] [], [.f 98, .t 70, .t 76, .t 82]⟩,
    ⟨35, some 84, none, .p .pick, [.t 68, .t 83, .c (.bool false)]⟩,
    ⟨36, some 2, none, .p .mov, [.t 84]⟩])
   (.ret)))),
  [.tmp 2]⟩
/- (*loop.example/g00641/spec.l1Cur).truth -/
def g86 : GL.Fn := ⟨.seq (.reg 0 [⟨0, some 2, none, .p .mov, [.c (.int .i64 0)]⟩])
   (.seq (.reg 0 [⟨0, some 3, none, .p .mov, [.t 0]⟩,
    ⟨1, some 4, none, .e (.new (.lit 1)) [] [], [.c (.int .i64 0), .c (.int .i64 0), .c (.int .i64 1), .c (.int .i64 1), .c (.int .i64 2), .c (.int .i64 2), .c (.int .i64 (-1)), .c (.int .i64 3)]⟩,
    ⟨2, some 5, none, .e .call [] [], [.f 93, .t 3, .t 4]⟩,
    ⟨3, some 2, none, .p .mov, [.t 5]⟩])
   (.ret)),
  [.tmp 2]⟩
/- loop.example/g00641/impl.isTruth -/
def g87 : GL.Fn := ⟨.seq (.reg 0 [⟨0, some 2, none, .p .mov, [.c (.bool false)]⟩])
   (.seq (.reg 0 [⟨0, some 3, none, .p .mov, [.t 0]⟩,
    ⟨1, some 4, none, .e .call [] [], [.f 107, .t 3, .c (.int .i64 0), .c (.int .i64 2)]⟩,
    ⟨2, some 2, none, .p .mov, [.t 4]⟩])
   (.ret)),
  [.tmp 2]⟩
/- loop.example/g00641/spec.l1Truth -/
def g88 : GL.Fn := ⟨.seq (.reg 0 [⟨0, some 2, none, .p .mov, [.c (.bool false)]⟩])
   (.seq (.reg 0 [⟨0, some 3, none, .p .mov, [.t 0]⟩,
    ⟨1, some 4, none, .e .call [] [], [.f 98, .t 3, .c (.int .i64 0), .c (.int .i64 2)]⟩,
    ⟨2, some 2, none, .p .mov, [.t 4]⟩])
   (.ret)),
  [.tmp 2]⟩
/- loop.example/g00641/spec.l1Least -/
def g89 : GL.Fn := ⟨.seq (.reg 0 [⟨0, some 4, none, .p .mov, [.c (.int .i64 0)]⟩])
   (.seq (.seq (.reg 0 [⟨0, some 5, none, .p .mov, [.t 0]⟩,
    ⟨1, some 6, none, .p .mov, [.t 1]⟩,
    ⟨2, some 7, none, .p (.bin .lss), [.t 5, .t 6]⟩])
   (.cond (.t 7) (.seq (.reg 0 [⟨0, some 8, none, .p .mov, [.t 0]⟩,
    ⟨1, some 4, none, .p .mov, [.t 8]⟩])
   (.ret))
   (.skip)))
   (.seq (.reg 0 [⟨0, some 9, none, .p .mov, [.t 1]⟩,
    ⟨1, some 4, none, .p .mov, [.t 9]⟩])
   (.ret))),
  [.tmp 4]⟩
/- loop.example/g00641/spec.l1Most -/
def g90 : GL.Fn := ⟨.seq (.reg 0 [⟨0, some 4, none, .p .mov, [.c (.int .i64 0)]⟩])
   (.seq (.seq (.reg 0 [⟨0, some 5, none, .p .mov, [.t 0]⟩,
    ⟨1, some 6, none, .p .mov, [.t 1]⟩,
    ⟨2, some 7, none, .p (.bin .gtr), [.t 5, .t 6]⟩])
   (.cond (.t 7) (.seq (.reg 0 [⟨0, some 8, none, .p .mov, [.t 0]⟩,
    ⟨1, some 4, none, .p .mov, [.t 8]⟩])
   (.ret))
   (.skip)))
   (.seq (.reg 0 [⟨0, some 9, none, .p .mov, [.t 1]⟩,
    ⟨1, some 4, none, .p .mov, [.t 9]⟩])
   (.ret))),
  [.tmp 4]⟩
/- (*loop.example/g00641/spec.l1Cur).pick -/
def g91 : GL.Fn := ⟨.seq (.reg 0 [⟨0, some 4, none, .p .mov, [.c (.int .i64 0)]⟩])
   (.seq (.seq (.reg 0 [⟨0, some 6, none, .p .mov, [.t 1]⟩,
    ⟨1, some 7, none, .p (.bin .leq), [.t 6, .c (.int .i64 1)]⟩])
   (.cond (.t 7) (.seq (.reg 0 [⟨0, some 4, none, .p .mov, [.c (.int .i64 0)]⟩])
   (.ret))
   (.skip)))
   (.seq (.reg 0 [⟨0, some 8, none, .p .mov, [.t 0]⟩,
    ⟨1, some 9, none, .e .call [] [], [.f 140, .t 8]⟩,
    ⟨2, some 5, none, .p .mov, [.t 9]⟩])
   (.seq (.seq (.reg 0 [⟨0, some 10, none, .p .mov, [.t 1]⟩,
    ⟨1, some 11, none, .p (.bin .gtr), [.t 10, .c (.int .i64 200)]⟩])
   (.cond (.t 11) (.reg 0 [⟨0, some 12, none, .p .mov, [.t 5]⟩,
    ⟨1, some 13, none, .p (.bin .mul), [.t 12, .c (.int .i64 256)]⟩,
    ⟨2, some 14, none, .p .mov, [.t 0]⟩,
    ⟨3, some 15, none, .e .call [] [], [.f 140, .t 14]⟩,
    ⟨4, some 16, none, .p (.bin .add), [.t 13, .t 15]⟩,
    ⟨5, some 5, none, .p .mov, [.t 16]⟩])
   (.skip)))
   (.seq (.reg 0 [⟨0, some 17, none, .p .mov, [.t 5]⟩,
    ⟨1, some 18, none, .p .mov, [.t 1]⟩,
    ⟨2, some 19, none, .p (.bin .rem), [.t 17, .t 18]⟩,
    ⟨3, some 4, none, .p .mov, [.t 19]⟩])
   (.ret))))),
  [.tmp 4]⟩
/- (*loop.example/g00641/spec.l1Cur).one -/
def g92 : GL.Fn := ⟨.seq (.reg 0 [⟨0, some 4, none, .p .mov, [.c (.bool false)]⟩])
   (.seq (.reg 0 [⟨0, some 5, none, .p .mov, [.t 0]⟩,
    ⟨1, some 6, none, .p .mov, [.t 1]⟩,
    ⟨2, some 7, none, .e .call [] [], [.f 91, .t 5, .t 6]⟩,
    ⟨3, some 8, none, .p (.bin .eql), [.t 7, .c (.int .i64 0)]⟩,
    ⟨4, some 4, none, .p .mov, [.t 8]⟩])
   (.ret)),
  [.tmp 4]⟩
/- (*loop.example/g00641/spec.l1Cur).among -/
def g93 : GL.Fn := ⟨.seq (.reg 0 [⟨0, some 4, none, .p .mov, [.c (.int .i64 0)]⟩])
   (.seq (.reg 0 [⟨0, some 5, none, .p .mov, [.t 1]⟩,
    ⟨1, some 6, none, .p .mov, [.t 0]⟩,
    ⟨2, some 7, none, .p .mov, [.t 1]⟩,
    ⟨3, some 8, none, .p .len, [.t 7]⟩,
    ⟨4, some 9, none, .e .call [] [], [.f 91, .t 6, .t 8]⟩,
    ⟨5, some 10, none, .p (.idx 1), [.t 5, .t 9]⟩,
    ⟨6, some 11, none, .r (.load false 1) false, [.t 10]⟩,
    ⟨7, some 4, none, .p .mov, [.t 11]⟩])
   (.ret)),
  [.tmp 4]⟩
/- loop.example/g00641/spec.l1All -/
def g94_0 : GL.Code := .seq (.reg 0 [⟨0, some 12, none, .p (.bin .lss), [.t 11, .t 10]⟩])
   (.seq (.cond (.t 12) (.skip)
   (.exit 0))
   (.seq (.block 1 (.seq (.reg 0 [⟨0, some 13, none, .p (.idx 1), [.t 9, .t 11]⟩,
    ⟨1, some 14, none, .r (.load false 1) false, [.t 13]⟩,
    ⟨2, some 8, none, .p .mov, [.t 14]⟩])
   (.seq (.reg 0 [⟨0, some 15, none, .p .mov, [.t 8]⟩,
    ⟨1, some 16, none, .p .mov, [.t 1]⟩,
    ⟨2, some 17, none, .p .mov, [.t 2]⟩,
    ⟨3, some 18, none, .e .call [] [], [.f 98, .t 15, .t 16, .t 17]⟩,
    ⟨4, some 19, none, .p (.un .not), [.t 18]⟩])
   (.cond (.t 19) (.seq (.reg 0 [⟨0, some 6, none, .p .mov, [.c (.bool false)]⟩])
   (.ret))
   (.skip)))))
   (.reg 0 [⟨0, some 20, none, .p (.bin .add), [.t 11, .c (.int .i64 1)]⟩,
    ⟨1, some 11, none, .p .mov, [.t 20]⟩])))
def g94 : GL.Fn := ⟨.seq (.reg 0 [⟨0, some 6, none, .p .mov, [.c (.bool false)]⟩])
   (.seq (.seq (.reg 0 [⟨0, some 9, none, .p .mov, [.t 0]⟩,
    ⟨1, some 10, none, .p .len, [.t 9]⟩,
    ⟨2, some 11, none, .p .mov, [.c (.int .i64 0)]⟩])
   (.block 0 (.loop g94_0)))
   (.seq (.reg 0 [⟨0, some 6, none, .p .mov, [.c (.bool true)]⟩])
   (.ret))),
  [.tmp 6]⟩
/- (*loop.example/g00641/spec.l1Cur).value -/
def g95 : GL.Fn := ⟨.seq (.reg 0 [⟨0, some 2, none, .l (.alloc 2 [.bool false, .int .i64 0]), []⟩])
   (.seq (.seq (.reg 0 [⟨0, some 3, none, .p .mov, [.t 0]⟩,
    ⟨1, some 4, none, .e .call [] [], [.f 92, .t 3, .c (.int .i64 4)]⟩])
   (.cond (.t 4) (.seq (.reg 0 [⟨0, some 5, none, .p (.build [.bool false, .int .i64 0] [(0, 1)]), [.c (.bool true)]⟩,
    ⟨1, none, none, .l (.store 2 2), [.t 2, .t 5]⟩])
   (.ret))
   (.skip)))
   (.seq (.seq (.reg 0 [⟨0, some 6, none, .p .mov, [.t 0]⟩,
    ⟨1, some 7, none, .e .call [] [], [.f 92, .t 6, .c (.int .i64 30)]⟩])
   (.cond (.t 7) (.seq (.reg 0 [⟨0, some 8, none, .p .mov, [.t 0]⟩,
    ⟨1, some 9, none, .e .call [] [], [.f 92, .t 8, .c (.int .i64 2)]⟩,
    ⟨2, some 10, none, .p .mov, [.t 0]⟩,
    ⟨3, some 11, none, .e (.new (.lit 1)) [] [], [.c (.int .i64 (-1001)), .c (.int .i64 (-1000)), .c (.int .i64 1000), .c (.int .i64 1001)]⟩,
    ⟨4, some 12, none, .e .call [] [], [.f 93, .t 10, .t 11]⟩,
    ⟨5, some 13, none, .p (.build [.bool false, .int .i64 0] [(0, 1), (1, 1)]), [.t 9, .t 12]⟩,
    ⟨6, none, none, .l (.store 2 2), [.t 2, .t 13]⟩])
   (.ret))
   (.skip)))
   (.seq (.reg 0 [⟨0, some 14, none, .p .mov, [.t 0]⟩,
    ⟨1, some 15, none, .e .call [] [], [.f 91, .t 14, .c (.int .i64 6)]⟩,
    ⟨2, some 16, none, .p (.bin .sub), [.t 15, .c (.int .i64 1)]⟩,
    ⟨3, some 17, none, .p (.build [.bool false, .int .i64 0] [(1, 1)]), [.t 16]⟩,
    ⟨4, none, none, .l (.store 2 2), [.t 2, .t 17]⟩])
   (.ret)))),
  [.cellL 2 2 true 2]⟩
/- loop.example/g00641/impl.isKind -/
def g96 : GL.Fn := ⟨.seq (.reg 0 [⟨0, some 2, none, .p .mov, [.c (.bool false)]⟩])
   (.seq (.reg 0 [⟨0, some 3, none, .p .mov, [.t 0]⟩,
    ⟨1, some 4, none, .e .call [] [], [.f 107, .t 3, .c (.int .i64 0), .c (.int .i64 2)]⟩,
    ⟨2, some 2, none, .p .mov, [.t 4]⟩])
   (.ret)),
  [.tmp 2]⟩
/- loop.example/g00641/impl.compare -/
def g97 : GL.Fn := ⟨.seq (.reg 0 [⟨0, some 4, none, .l (.box 4 2), [.t 1]⟩,
    ⟨1, some 5, none, .l (.box 5 2), [.t 2]⟩,
    ⟨2, some 6, none, .p .mov, [.c (.int .i64 0)]⟩])
   (.seq (.block 0 (.seq (.reg 0 [⟨0, some 8, none, .p (.faddr 0), [.t 4]⟩,
    ⟨1, some 9, none, .l (.load 4 false 1), [.t 8]⟩,
    ⟨2, some 10, none, .p .mov, [.t 9]⟩,
    ⟨3, some 11, some (10, false), .p (.faddr 0), [.t 5]⟩,
    ⟨4, some 12, some (10, false), .l (.load 5 false 1), [.t 11]⟩,
    ⟨5, some 13, none, .p .pick, [.t 10, .c (.bool true), .t 12]⟩,
    ⟨6, some 7, none, .p .mov, [.t 13]⟩])
   (.cond (.t 7) (.seq (.reg 0 [⟨0, some 6, none, .p .mov, [.c (.int .i64 1)]⟩])
   (.ret))
   (.seq (.reg 0 [⟨0, some 15, none, .p .mov, [.t 0]⟩,
    ⟨1, some 16, none, .p (.bin .eql), [.t 15, .c (.int .i64 0)]⟩,
    ⟨2, some 14, none, .p .mov, [.t 16]⟩])
   (.cond (.t 14) (.seq (.reg 0 [⟨0, some 17, none, .p (.faddr 1), [.t 4]⟩,
    ⟨1, some 18, none, .l (.load 4 false 1), [.t 17]⟩,
    ⟨2, some 19, none, .p (.faddr 1), [.t 5]⟩,
    ⟨3, some 20, none, .l (.load 5 false 1), [.t 19]⟩,
    ⟨4, some 21, none, .p (.bin .eql), [.t 18, .t 20]⟩,
    ⟨5, some 22, none, .e .call [] [], [.f 141, .t 21]⟩,
    ⟨6, some 6, none, .p .mov, [.t 22]⟩])
   (.ret))
   (.seq (.reg 0 [⟨0, some 24, none, .p .mov, [.t 0]⟩,
    ⟨1, some 25, none, .p (.bin .eql), [.t 24, .c (.int .i64 1)]⟩,
    ⟨2, some 23, none, .p .mov, [.t 25]⟩])
   (.cond (.t 23) (.seq (.reg 0 [⟨0, some 26, none, .p (.faddr 1), [.t 4]⟩,
    ⟨1, some 27, none, .l (.load 4 false 1), [.t 26]⟩,
    ⟨2, some 28, none, .p (.faddr 1), [.t 5]⟩,
    ⟨3, some 29, none, .l (.load 5 false 1), [.t 28]⟩,
    ⟨4, some 30, none, .p (.bin .lss), [.t 27, .t 29]⟩,
    ⟨5, some 31, none, .e .call [] [], [.f 141, .t 30]⟩,
    ⟨6, some 6, none, .p .mov, [.t 31]⟩])
   (.ret))
   (.skip))))))))
   (.seq (.reg 0 [⟨0, some 32, none, .p (.faddr 1), [.t 4]⟩,
    ⟨1, some 33, none, .l (.load 4 false 1), [.t 32]⟩,
    ⟨2, some 34, none, .p (.faddr 1), [.t 5]⟩,
    ⟨3, some 35, none, .l (.load 5 false 1), [.t 34]⟩,
    ⟨4, some 36, none, .p (.bin .gtr), [.t 33, .t 35]⟩,
    ⟨5, some 37, none, .e .call [] [], [.f 141, .t 36]⟩,
    ⟨6, some 6, none, .p .mov, [.t 37]⟩])
   (.ret))),
  [.tmp 6]⟩
/- loop.example/g00641/spec.l1In -/
def g98 : GL.Fn := ⟨.seq (.reg 0 [⟨0, some 6, none, .p .mov, [.c (.bool false)]⟩])
   (.seq (.reg 0 [⟨0, some 7, none, .p .mov, [.t 0]⟩,
    ⟨1, some 8, none, .p .mov, [.t 1]⟩,
    ⟨2, some 9, none, .p (.bin .geq), [.t 7, .t 8]⟩,
    ⟨3, some 10, none, .p .mov, [.t 9]⟩,
    ⟨4, some 11, some (10, true), .p .mov, [.t 0]⟩,
    ⟨5, some 12, some (10, true), .p .mov, [.t 2]⟩,
    ⟨6, some 13, some (10, true), .p (.bin .leq), [.t 11, .t 12]⟩,
    ⟨7, some 14, none, .p .pick, [.t 10, .t 13, .c (.bool false)]⟩,
    ⟨8, some 6, none, .p .mov, [.t 14]⟩])
   (.ret)),
  [.tmp 6]⟩
/- loop.example/g00641/spec.l1Compare -/
def g99 : GL.Fn := ⟨.seq (.reg 0 [⟨0, some 4, none, .l (.box 4 2), [.t 1]⟩,
    ⟨1, some 5, none, .l (.box 5 2), [.t 2]⟩,
    ⟨2, some 6, none, .p .mov, [.c (.int .i64 0)]⟩])
   (.seq (.seq (.reg 0 [⟨0, some 7, none, .p (.faddr 0), [.t 4]⟩,
    ⟨1, some 8, none, .l (.load 4 false 1), [.t 7]⟩,
    ⟨2, some 9, none, .p .mov, [.t 8]⟩,
    ⟨3, some 10, some (9, false), .p (.faddr 0), [.t 5]⟩,
    ⟨4, some 11, some (9, false), .l (.load 5 false 1), [.t 10]⟩,
    ⟨5, some 12, none, .p .pick, [.t 9, .c (.bool true), .t 11]⟩])
   (.cond (.t 12) (.seq (.reg 0 [⟨0, some 6, none, .p .mov, [.c (.int .i64 1)]⟩])
   (.ret))
   (.skip)))
   (.seq (.seq (.reg 0 [⟨0, some 13, none, .p .mov, [.t 0]⟩])
   (.block 0 (.seq (.reg 0 [⟨0, some 15, none, .p (.bin .eql), [.t 13, .c (.int .i64 0)]⟩,
    ⟨1, some 14, none, .p .mov, [.t 15]⟩])
   (.cond (.t 14) (.seq (.reg 0 [⟨0, some 16, none, .p (.faddr 1), [.t 4]⟩,
    ⟨1, some 17, none, .l (.load 4 false 1), [.t 16]⟩,
    ⟨2, some 18, none, .p (.faddr 1), [.t 5]⟩,
    ⟨3, some 19, none, .l (.load 5 false 1), [.t 18]⟩,
    ⟨4, some 20, none, .p (.bin .eql), [.t 17, .t 19]⟩,
    ⟨5, some 21, none, .e .call [] [], [.f 142, .t 20]⟩,
    ⟨6, some 6, none, .p .mov, [.t 21]⟩])
   (.ret))
   (.seq (.reg 0 [⟨0, some 23, none, .p (.bin .eql), [.t 13, .c (.int .i64 1)]⟩,
    ⟨1, some 22, none, .p .mov, [.t 23]⟩])
   (.cond (.t 22) (.seq (.reg 0 [⟨0, some 24, none, .p (.faddr 1), [.t 4]⟩,
    ⟨1, some 25, none, .l (.load 4 false 1), [.t 24]⟩,
    ⟨2, some 26, none, .p (.faddr 1), [.t 5]⟩,
    ⟨3, some 27, none, .l (.load 5 false 1), [.t 26]⟩,
    ⟨4, some 28, none, .p (.bin .lss), [.t 25, .t 27]⟩,
    ⟨5, some 29, none, .e .call [] [], [.f 142, .t 28]⟩,
    ⟨6, some 6, none, .p .mov, [.t 29]⟩])
   (.ret))
   (.skip)))))))
   (.seq (.reg 0 [⟨0, some 30, none, .p (.faddr 1), [.t 4]⟩,
    ⟨1, some 31, none, .l (.load 4 false 1), [.t 30]⟩,
    ⟨2, some 32, none, .p (.faddr 1), [.t 5]⟩,
    ⟨3, some 33, none, .l (.load 5 false 1), [.t 32]⟩,
    ⟨4, some 34, none, .p (.bin .gtr), [.t 31, .t 33]⟩,
    ⟨5, some 35, none, .e .call [] [], [.f 142, .t 34]⟩,
    ⟨6, some 6, none, .p .mov, [.t 35]⟩])
   (.ret)))),
  [.tmp 6]⟩
/- loop.example/g00641/impl.isSmall -/
def g100 : GL.Fn := ⟨.seq (.reg 0 [⟨0, some 2, none, .p .mov, [.c (.bool false)]⟩])
   (.seq (.reg 0 [⟨0, some 3, none, .p .mov, [.t 0]⟩,
    ⟨1, some 4, none, .e .call [] [], [.f 107, .t 3, .c (.int .i64 (-1000)), .c (.int .i64 1000)]⟩,
    ⟨2, some 2, none, .p .mov, [.t 4]⟩])
   (.ret)),
  [.tmp 2]⟩
/- (*loop.example/g00641/spec.l1Cur).values -/
def g101_0 : GL.Code := .seq (.seq (.reg 0 [⟨0, some 12, none, .p .mov, [.t 4]⟩,
    ⟨1, some 13, none, .p (.bin .gtr), [.t 12, .c (.int .i64 0)]⟩])
   (.cond (.t 13) (.skip)
   (.exit 0)))
   (.seq (.block 1 (.reg 0 [⟨0, some 16, none, .p .mov, [.t 3]⟩,
    ⟨1, some 17, none, .p .mov, [.t 0]⟩,
    ⟨2, some 18, none, .e .call [] [], [.f 143, .t 17]⟩,
    ⟨3, some 19, none, .e (.new (.lit 2)) [] [], [.t 18]⟩,
    ⟨4, some 20, none, .e (.append 2 16) [] [], [.t 16, .t 19]⟩,
    ⟨5, some 3, none, .p .mov, [.t 20]⟩]))
   (.reg 0 [⟨0, some 14, none, .p .mov, [.t 4]⟩,
    ⟨1, some 15, none, .p (.bin .sub), [.t 14, .c (.int .i64 1)]⟩,
    ⟨2, some 4, none, .p .mov, [.t 15]⟩]))
def g101 : GL.Fn := ⟨.seq (.reg 0 [⟨0, some 2, none, .p .mov, [.c (.nils)]⟩])
   (.seq (.reg 0 [⟨0, some 3, none, .p .mov, [.c (.nils)]⟩])
   (.seq (.reg 0 [⟨0, some 5, none, .p .mov, [.t 0]⟩,
    ⟨1, some 6, none, .e .call [] [], [.f 91, .t 5, .c (.int .i64 9)]⟩,
    ⟨2, some 4, none, .p .mov, [.t 6]⟩])
   (.seq (.seq (.reg 0 [⟨0, some 7, none, .p .mov, [.t 0]⟩,
    ⟨1, some 8, none, .e .call [] [], [.f 92, .t 7, .c (.int .i64 20)]⟩])
   (.cond (.t 8) (.reg 0 [⟨0, some 9, none, .p .mov, [.t 0]⟩,
    ⟨1, some 10, none, .e .call [] [], [.f 91, .t 9, .c (.int .i64 2)]⟩,
    ⟨2, some 11, none, .p (.bin .add), [.c (.int .i64 40), .t 10]⟩,
    ⟨3, some 4, none, .p .mov, [.t 11]⟩])
   (.skip)))
   (.seq (.block 0 (.loop g101_0))
   (.seq (.seq (.reg 0 [⟨0, some 21, none, .p .mov, [.t 3]⟩,
    ⟨1, some 22, none, .p .len, [.t 21]⟩,
    ⟨2, some 23, none, .p (.bin .gtr), [.t 22, .c (.int .i64 0)]⟩,
    ⟨3, some 24, none, .p .mov, [.t 23]⟩,
    ⟨4, some 25, some (24, true), .p .mov, [.t 0]⟩,
    ⟨5, some 26, some (24, true), .e .call [] [], [.f 92, .t 25, .c (.int .i64 12)]⟩,
    ⟨6, some 27, none, .p .pick, [.t 24, .t 26, .c (.bool false)]⟩])
   (.cond (.t 27) (.reg 0 [⟨0, some 28, none, .p .mov, [.t 3]⟩,
    ⟨1, some 29, none, .p .mov, [.t 0]⟩,
    ⟨2, some 30, none, .e .call [] [], [.f 95, .t 29]⟩,
    ⟨3, some 31, none, .p (.idx 2), [.t 28, .c (.int .i64 0)]⟩,
    ⟨4, none, none, .e (.store 2) [] [], [.t 31, .t 30]⟩])
   (.skip)))
   (.seq (.reg 0 [⟨0, some 32, none, .p .mov, [.t 3]⟩,
    ⟨1, some 2, none, .p .mov, [.t 32]⟩])
   (.ret))))))),
  [.tmp 2]⟩
/- loop.example/g00641/impl.areValues -/
def g102_0 : GL.Code := .seq (.reg 0 [⟨0, some 8, none, .p (.bin .lss), [.t 7, .t 6]⟩])
   (.seq (.cond (.t 8) (.skip)
   (.exit 0))
   (.seq (.block 1 (.seq (.reg 0 [⟨0, some 9, none, .p (.idx 2), [.t 5, .t 7]⟩,
    ⟨1, some 10, none, .r (.load true 2) false, [.t 9]⟩,
    ⟨2, some 4, none, .l (.alloc 4 [.bool false, .int .i64 0]), []⟩,
    ⟨3, none, none, .l (.store 4 2), [.t 4, .t 10]⟩])
   (.seq (.reg 0 [⟨0, some 11, none, .l (.load 4 true 2), [.t 4]⟩,
    ⟨1, some 12, none, .e .call [] [], [.f 25, .t 11]⟩,
    ⟨2, some 13, none, .p (.un .not), [.t 12]⟩])
   (.cond (.t 13) (.seq (.reg 0 [⟨0, some 2, none, .p .mov, [.c (.bool false)]⟩])
   (.ret))
   (.skip)))))
   (.reg 0 [⟨0, some 14, none, .p (.bin .add), [.t 7, .c (.int .i64 1)]⟩,
    ⟨1, some 7, none, .p .mov, [.t 14]⟩])))
def g102 : GL.Fn := ⟨.seq (.reg 0 [⟨0, some 2, none, .p .mov, [.c (.bool false)]⟩])
   (.seq (.seq (.reg 0 [⟨0, some 5, none, .p .mov, [.t 0]⟩,
    ⟨1, some 6, none, .p .len, [.t 5]⟩,
    ⟨2, some 7, none, .p .mov, [.c (.int .i64 0)]⟩])
   (.block 0 (.loop g102_0)))
   (.seq (.reg 0 [⟨0, some 2, none, .p .mov, [.c (.bool true)]⟩])
   (.ret))),
  [.tmp 2]⟩
/- loop.example/g00641/impl.sumOf -/
def g103_0 : GL.Code := .seq (.reg 0 [⟨0, some 14, none, .p (.bin .lss), [.t 13, .t 12]⟩])
   (.seq (.cond (.t 14) (.skip)
   (.exit 0))
   (.seq (.block 1 (.seq (.reg 0 [⟨0, some 15, none, .p (.idx 2), [.t 11, .t 13]⟩,
    ⟨1, some 16, none, .r (.load true 2) false, [.t 15]⟩,
    ⟨2, some 5, none, .l (.alloc 5 [.bool false, .int .i64 0]), []⟩,
    ⟨3, none, none, .l (.store 5 2), [.t 5, .t 16]⟩])
   (.seq (.seq (.reg 0 [⟨0, some 17, none, .p (.faddr 0), [.t 5]⟩,
    ⟨1, some 18, none, .l (.load 5 false 1), [.t 17]⟩])
   (.cond (.t 18) (.exit 1)
   (.skip)))
   (.seq (.seq (.reg 0 [⟨0, some 19, none, .p (.faddr 1), [.t 3]⟩,
    ⟨1, some 20, none, .l (.load 3 false 1), [.t 19]⟩,
    ⟨2, some 21, none, .p (.bin .eql), [.t 20, .c (.int .i64 0)]⟩])
   (.cond (.t 21) (.reg 0 [⟨0, some 22, none, .l (.load 5 true 2), [.t 5]⟩,
    ⟨1, some 23, none, .l (.load 5 true 2), [.t 5]⟩,
    ⟨2, some 24, none, .p (.faddr 3), [.t 3]⟩,
    ⟨3, none, none, .l (.store 3 2), [.t 24, .t 22]⟩,
    ⟨4, some 25, none, .p (.faddr 5), [.t 3]⟩,
    ⟨5, none, none, .l (.store 3 2), [.t 25, .t 23]⟩])
   (.skip)))
   (.seq (.reg 0 [⟨0, some 26, none, .p (.faddr 1), [.t 3]⟩,
    ⟨1, some 27, none, .l (.load 3 false 1), [.t 26]⟩,
    ⟨2, some 28, none, .p (.bin .add), [.t 27, .c (.int .i64 1)]⟩,
    ⟨3, some 29, none, .p (.faddr 1), [.t 3]⟩,
    ⟨4, none, none, .l (.store 3 1), [.t 29, .t 28]⟩])
   (.seq (.reg 0 [⟨0, some 30, none, .p (.faddr 2), [.t 3]⟩,
    ⟨1, some 31, none, .l (.load 3 false 1), [.t 30]⟩,
    ⟨2, some 32, none, .p (.faddr 1), [.t 5]⟩,
    ⟨3, some 33, none, .l (.load 5 false 1), [.t 32]⟩,
    ⟨4, some 34, none, .p (.bin .add), [.t 31, .t 33]⟩,
    ⟨5, some 35, none, .p (.faddr 2), [.t 3]⟩,
    ⟨6, none, none, .l (.store 3 1), [.t 35, .t 34]⟩])
   (.reg 0 [⟨0, some 36, none, .p (.faddr 3), [.t 3]⟩,
    ⟨1, some 37, none, .p (.faddr 1), [.t 36]⟩,
    ⟨2, some 38, none, .l (.load 3 false 1), [.t 37]⟩,
    ⟨3, some 39, none, .p (.faddr 1), [.t 5]⟩,
    ⟨4, some 40, none, .l (.load 5 false 1), [.t 39]⟩,
    ⟨5, some 41, none, .p .min2, [.t 38, .t 40]⟩,
    ⟨6, some 42, none, .p (.faddr 5), [.t 3]⟩,
    ⟨7, some 43, none, .p (.faddr 1), [.t 42]⟩,
    ⟨8, some 44, none, .l (.load 3 false 1), [.t 43]⟩,
    ⟨9, some 45, none, .p (.faddr 1), [.t 5]⟩,
    ⟨10, some 46, none, .l (.load 5 false 1), [.t 45]⟩,
    ⟨11, some 47, none, .p .max2, [.t 44, .t 46]⟩,
    ⟨12, some 48, none, .p (.faddr 3), [.t 3]⟩,
    ⟨13, some 49, none, .p (.faddr 1), [.t 48]⟩,
    ⟨14, none, none, .l (.store 3 1), [.t 49, .t 41]⟩,
    ⟨15, some 50, none, .p (.faddr 5), [.t 3]⟩,
    ⟨16, some 51, none, .p (.faddr 1), [.t 50]⟩,
    ⟨17, none, none, .l (.store 3 1), [.t 51, .t 47]⟩])))))))
   (.reg 0 [⟨0, some 52, none, .p (.bin .add), [.t 13, .c (.int .i64 1)]⟩,
    ⟨1, some 13, none, .p .mov, [.t 52]⟩])))
def g103 : GL.Fn := ⟨.seq (.reg 0 [⟨0, some 2, none, .l (.alloc 2 [.int .i64 0, .int .i64 0, .int .i64 0, .bool false, .int .i64 0, .bool false, .int .i64 0]), []⟩])
   (.seq (.reg 0 [⟨0, some 6, none, .p .mov, [.t 0]⟩,
    ⟨1, some 7, none, .p .len, [.t 6]⟩,
    ⟨2, some 8, none, .p (.build [.bool false, .int .i64 0] [(0, 1)]), [.c (.bool true)]⟩,
    ⟨3, some 9, none, .p (.build [.bool false, .int .i64 0] [(0, 1)]), [.c (.bool true)]⟩,
    ⟨4, some 10, none, .p (.build [.int .i64 0, .int .i64 0, .int .i64 0, .bool false, .int .i64 0, .bool false, .int .i64 0] [(0, 1), (3, 2), (5, 2)]), [.t 7, .t 8, .t 9]⟩,
    ⟨5, some 3, none, .l (.alloc 3 [.int .i64 0, .int .i64 0, .int .i64 0, .bool false, .int .i64 0, .bool false, .int .i64 0]), []⟩,
    ⟨6, none, none, .l (.store 3 7), [.t 3, .t 10]⟩])
   (.seq (.seq (.reg 0 [⟨0, some 11, none, .p .mov, [.t 0]⟩,
    ⟨1, some 12, none, .p .len, [.t 11]⟩,
    ⟨2, some 13, none, .p .mov, [.c (.int .i64 0)]⟩])
   (.block 0 (.loop g103_0)))
   (.seq (.reg 0 [⟨0, some 53, none, .l (.load 3 true 7), [.t 3]⟩,
    ⟨1, none, none, .l (.store 2 7), [.t 2, .t 53]⟩])
   (.ret)))),
  [.cellL 2 2 true 7]⟩
/- loop.example/g00641/spec.l4Values -/
def g104_0 : GL.Code := .seq (.reg 0 [⟨0, some 8, none, .p (.bin .lss), [.t 7, .t 6]⟩])
   (.seq (.cond (.t 8) (.skip)
   (.exit 0))
   (.seq (.block 1 (.seq (.reg 0 [⟨0, some 9, none, .p (.idx 2), [.t 5, .t 7]⟩,
    ⟨1, some 10, none, .r (.load true 2) false, [.t 9]⟩,
    ⟨2, some 4, none, .l (.alloc 4 [.bool false, .int .i64 0]), []⟩,
    ⟨3, none, none, .l (.store 4 2), [.t 4, .t 10]⟩])
   (.seq (.reg 0 [⟨0, some 11, none, .l (.load 4 true 2), [.t 4]⟩,
    ⟨1, some 12, none, .e .call [] [], [.f 26, .t 11]⟩,
    ⟨2, some 13, none, .p (.un .not), [.t 12]⟩])
   (.cond (.t 13) (.seq (.reg 0 [⟨0, some 2, none, .p .mov, [.c (.bool false)]⟩])
   (.ret))
   (.skip)))))
   (.reg 0 [⟨0, some 14, none, .p (.bin .add), [.t 7, .c (.int .i64 1)]⟩,
    ⟨1, some 7, none, .p .mov, [.t 14]⟩])))
def g104 : GL.Fn := ⟨.seq (.reg 0 [⟨0, some 2, none, .p .mov, [.c (.bool false)]⟩])
   (.seq (.seq (.reg 0 [⟨0, some 5, none, .p .mov, [.t 0]⟩,
    ⟨1, some 6, none, .p .len, [.t 5]⟩,
    ⟨2, some 7, none, .p .mov, [.c (.int .i64 0)]⟩])
   (.block 0 (.loop g104_0)))
   (.seq (.reg 0 [⟨0, some 15, none, .p .mov, [.t 0]⟩,
    ⟨1, some 16, none, .p .len, [.t 15]⟩,
    ⟨2, some 17, none, .p (.bin .leq), [.t 16, .c (.int .i64 40)]⟩,
    ⟨3, some 2, none, .p .mov, [.t 17]⟩])
   (.ret))),
  [.tmp 2]⟩
/- loop.example/g00641/spec.l4None -/
def g105 : GL.Fn := ⟨.seq (.reg 0 [⟨0, some 0, none, .l (.alloc 0 [.int .i64 0, .int .i64 0, .int .i64 0, .bool false, .int .i64 0, .bool false, .int .i64 0]), []⟩])
   (.seq (.reg 0 [⟨0, some 1, none, .p (.build [.bool false, .int .i64 0] [(0, 1)]), [.c (.bool true)]⟩,
    ⟨1, some 2, none, .p (.build [.bool false, .int .i64 0] [(0, 1)]), [.c (.bool true)]⟩,
    ⟨2, some 3, none, .p (.build [.int .i64 0, .int .i64 0, .int .i64 0, .bool false, .int .i64 0, .bool false, .int .i64 0] [(3, 2), (5, 2)]), [.t 1, .t 2]⟩,
    ⟨3, none, none, .l (.store 0 7), [.t 0, .t 3]⟩])
   (.ret)),
  [.cellL 0 0 true 7]⟩
/- loop.example/g00641/spec.l4Add -/
def g106 : GL.Fn := ⟨.seq (.reg 0 [⟨0, some 2, none, .l (.box 2 7), [.t 0]⟩,
    ⟨1, some 3, none, .l (.box 3 2), [.t 1]⟩,
    ⟨2, some 4, none, .l (.alloc 4 [.int .i64 0, .int .i64 0, .int .i64 0, .bool false, .int .i64 0, .bool false, .int .i64 0]), []⟩])
   (.seq (.reg 0 [⟨0, some 5, none, .p (.faddr 0), [.t 2]⟩,
    ⟨1, some 6, none, .l (.load 2 false 1), [.t 5]⟩,
    ⟨2, some 7, none, .p (.bin .add), [.t 6, .c (.int .i64 1)]⟩,
    ⟨3, some 8, none, .p (.faddr 0), [.t 2]⟩,
    ⟨4, none, none, .l (.store 2 1), [.t 8, .t 7]⟩])
   (.seq (.seq (.reg 0 [⟨0, some 9, none, .p (.faddr 0), [.t 3]⟩,
    ⟨1, some 10, none, .l (.load 3 false 1), [.t 9]⟩])
   (.cond (.t 10) (.seq (.reg 0 [⟨0, some 11, none, .l (.load 2 true 7), [.t 2]⟩,
    ⟨1, none, none, .l (.store 4 7), [.t 4, .t 11]⟩])
   (.ret))
   (.skip)))
   (.seq (.reg 0 [⟨0, some 12, none, .p (.faddr 1), [.t 2]⟩,
    ⟨1, some 13, none, .l (.load 2 false 1), [.t 12]⟩,
    ⟨2, some 14, none, .p (.bin .add), [.t 13, .c (.int .i64 1)]⟩,
    ⟨3, some 15, none, .p (.faddr 1), [.t 2]⟩,
    ⟨4, none, none, .l (.store 2 1), [.t 15, .t 14]⟩])
   (.seq (.reg 0 [⟨0, some 16, none, .p (.faddr 2), [.t 2]⟩,
    ⟨1, some 17, none, .l (.load 2 false 1), [.t 16]⟩,
    ⟨2, some 18, none, .p (.faddr 1), [.t 3]⟩,
    ⟨3, some 19, none, .l (.load 3 false 1), [.t 18]⟩,
    ⟨4, some 20, none, .p (.bin .add), [.t 17, .t 19]⟩,
    ⟨5, some 21, none, .p (.faddr 2), [.t 2]⟩,
    ⟨6, none, none, .l (.store 2 1), [.t 21, .t 20]⟩])
   (.seq (.seq (.reg 0 [⟨0, some 22, none, .p (.faddr 1), [.t 2]⟩,
    ⟨1, some 23, none, .l (.load 2 false 1), [.t 22]⟩,
    ⟨2, some 24, none, .p (.bin .eql), [.t 23, .c (.int .i64 1)]⟩,
    ⟨3, some 25, none, .p .mov, [.t 24]⟩,
    ⟨4, some 26, some (25, false), .p (.faddr 1), [.t 3]⟩,
    ⟨5, some 27, some (25, false), .l (.load 3 false 1), [.t 26]⟩,
    ⟨6, some 28, some (25, false), .p (.faddr 3), [.t 2]⟩,
    ⟨7, some 29, some (25, false), .p (.faddr 1), [.t 28]⟩,
    ⟨8, some 30, some (25, false), .l (.load 2 false 1), [.t 29]⟩,
    ⟨9, some 31, some (25, false), .p (.bin .lss), [.t 27, .t 30]⟩,
    ⟨10, some 32, none, .p .pick, [.t 25, .c (.bool true), .t 31]⟩])
   (.cond (.t 32) (.reg 0 [⟨0, some 33, none, .l (.load 3 true 2), [.t 3]⟩,
    ⟨1, some 34, none, .p (.faddr 3), [.t 2]⟩,
    ⟨2, none, none, .l (.store 2 2), [.t 34, .t 33]⟩])
   (.skip)))
   (.seq (.seq (.reg 0 [⟨0, some 35, none, .p (.faddr 1), [.t 2]⟩,
    ⟨1, some 36, none, .l (.load 2 false 1), [.t 35]⟩,
    ⟨2, some 37, none, .p (.bin .eql), [.t 36, .c (.int .i64 1)]⟩,
    ⟨3, some 38, none, .p .mov, [.t 37]⟩,
    ⟨4, some 39, some (38, false), .p (.faddr 1), [.t 3]⟩,
    ⟨5, some 40, some (38, false), .l (.load 3 false 1), [.t 39]⟩,
    ⟨6, some 41, some (38, false), .p (.faddr 5), [.t 2]⟩,
    ⟨7, some 42, some (38, false), .p (.faddr 1), [.t 41]⟩,
    ⟨8, some 43, some (38, false), .l (.load 2 false 1), [.t 42]⟩,
    ⟨9, some 44, some (38, false), .p (.bin .gtr), [.t 40, .t 43]⟩,
    ⟨10, some 45, none, .p .pick, [.t 38, .c (.bool true), .t 44]⟩])
   (.cond (.t 45) (.reg 0 [⟨0, some 46, none, .l (.load 3 true 2), [.t 3]⟩,
    ⟨1, some 47, none, .p (.faddr 5), [.t 2]⟩,
    ⟨2, none, none, .l (.store 2 2), [.t 47, .t 46]⟩])
   (.skip)))
   (.seq (.reg 0 [⟨0, some 48, none, .l (.load 2 true 7), [.t 2]⟩,
    ⟨1, none, none, .l (.store 4 7), [.t 4, .t 48]⟩])
   (.ret)))))))),
  [.cellL 4 4 true 7]⟩
/- loop.example/g00641/impl.within -/
def g107 : GL.Fn := ⟨.seq (.reg 0 [⟨0, some 6, none, .p .mov, [.c (.bool false)]⟩])
   (.seq (.reg 0 [⟨0, some 7, none, .p .mov, [.t 0]⟩,
    ⟨1, some 8, none, .p .mov, [.t 1]⟩,
    ⟨2, some 9, none, .p (.bin .geq), [.t 7, .t 8]⟩,
    ⟨3, some 10, none, .p .mov, [.t 9]⟩,
    ⟨4, some 11, some (10, true), .p .mov, [.t 0]⟩,
    ⟨5, some 12, some (10, true), .p .mov, [.t 2]⟩,
    ⟨6, some 13, some (10, true), .p (.bin .leq), [.t 11, .t 12]⟩,
    ⟨7, some 14, none, .p .pick, [.t 10, .t 13, .c (.bool false)]⟩,
    ⟨8, some 6, none, .p .mov, [.t 14]⟩])
   (.ret)),
  [.tmp 6]⟩
/- (*loop.example/g00641/spec.l1Cur).sum -/
def g108 : GL.Fn := ⟨.seq (.reg 0 [⟨0, some 2, none, .l (.alloc 2 [.int .i64 0, .int .i64 0, .int .i64 0, .bool false, .int .i64 0, .bool false, .int .i64 0]), []⟩])
   (.seq (.reg 0 [⟨0, some 6, none, .p .mov, [.t 0]⟩,
    ⟨1, some 7, none, .e .call [] [], [.f 101, .t 6]⟩,
    ⟨2, some 8, none, .e .call [] [], [.f 30, .t 7]⟩,
    ⟨3, some 5, none, .p .mov, [.t 8]⟩,
    ⟨4, some 9, none, .p (.extract 0), [.t 5]⟩,
    ⟨5, some 10, none, .p (.extract 1), [.t 5]⟩,
    ⟨6, some 3, none, .l (.alloc 3 [.int .i64 0, .int .i64 0, .int .i64 0, .bool false, .int .i64 0, .bool false, .int .i64 0]), []⟩,
    ⟨7, none, none, .l (.store 3 7), [.t 3, .t 9]⟩,
    ⟨8, some 4, none, .p .mov, [.t 10]⟩])
   (.seq (.seq (.reg 0 [⟨0, some 11, none, .p .mov, [.t 0]⟩,
    ⟨1, some 12, none, .e .call [] [], [.f 91, .t 11, .c (.int .i64 20)]⟩])
   (.block 0 (.seq (.reg 0 [⟨0, some 14, none, .p (.bin .eql), [.t 12, .c (.int .i64 0)]⟩,
    ⟨1, some 13, none, .p .mov, [.t 14]⟩])
   (.cond (.t 13) (.reg 0 [⟨0, some 15, none, .p (.faddr 2), [.t 3]⟩,
    ⟨1, some 16, none, .l (.load 3 false 1), [.t 15]⟩,
    ⟨2, some 17, none, .p .mov, [.t 0]⟩,
    ⟨3, some 18, none, .e (.new (.lit 1)) [] [], [.c (.int .i64 (-1000000)), .c (.int .i64 1000000), .c (.int .i64 100)]⟩,
    ⟨4, some 19, none, .e .call [] [], [.f 93, .t 17, .t 18]⟩,
    ⟨5, some 20, none, .p (.bin .add), [.t 16, .t 19]⟩,
    ⟨6, some 21, none, .p (.faddr 2), [.t 3]⟩,
    ⟨7, none, none, .l (.store 3 1), [.t 21, .t 20]⟩])
   (.seq (.reg 0 [⟨0, some 23, none, .p (.bin .eql), [.t 12, .c (.int .i64 1)]⟩,
    ⟨1, some 22, none, .p .mov, [.t 23]⟩])
   (.cond (.t 22) (.reg 0 [⟨0, some 24, none, .p .mov, [.t 0]⟩,
    ⟨1, some 25, none, .e (.new (.lit 1)) [] [], [.c (.int .i64 (-1)), .c (.int .i64 10000), .c (.int .i64 10001)]⟩,
    ⟨2, some 26, none, .e .call [] [], [.f 93, .t 24, .t 25]⟩,
    ⟨3, some 27, none, .p (.faddr 0), [.t 3]⟩,
    ⟨4, none, none, .l (.store 3 1), [.t 27, .t 26]⟩])
   (.skip)))))))
   (.seq (.reg 0 [⟨0, some 28, none, .l (.load 3 true 7), [.t 3]⟩,
    ⟨1, none, none, .l (.store 2 7), [.t 2, .t 28]⟩])
   (.ret)))),
  [.cellL 2 2 true 7]⟩
/- loop.example/g00641/spec.DrawGoodSum -/
def g109 : GL.Fn := ⟨.seq (.reg 0 [⟨0, some 2, none, .l (.alloc 2 [.int .i64 0, .int .i64 0, .int .i64 0, .bool false, .int .i64 0, .bool false, .int .i64 0]), []⟩])
   (.seq (.reg 0 [⟨0, some 4, none, .p .mov, [.t 0]⟩,
    ⟨1, some 5, none, .p (.build [.nils, .int .i64 0, .int .u64 0] [(0, 1)]), [.t 4]⟩,
    ⟨2, some 6, none, .e (.new (.box 3)) [] [], [.t 5]⟩,
    ⟨3, some 3, none, .p .mov, [.t 6]⟩])
   (.seq (.reg 0 [⟨0, some 7, none, .p .mov, [.t 3]⟩,
    ⟨1, some 8, none, .e .call [] [], [.f 108, .t 7]⟩,
    ⟨2, none, none, .l (.store 2 7), [.t 2, .t 8]⟩])
   (.ret))),
  [.cellL 2 2 true 7]⟩
/- (*loop.example/g00641/spec.l1Cur).next -/
def g140 : GL.Fn := ⟨.seq (.reg 0 [⟨0, some 2, none, .p .mov, [.c (.int .i64 0)]⟩])
   (.seq (.reg 0 [⟨0, some 3, none, .p .mov, [.c (.int .i64 0)]⟩])
   (.seq (.seq (.reg 0 [⟨0, some 4, none, .p .mov, [.t 0]⟩,
    ⟨1, some 5, none, .p .nilCheck, [.t 4]⟩,
    ⟨2, some 6, none, .p (.faddr 1), [.t 5]⟩,
    ⟨3, some 7, none, .r (.load false 1) false, [.t 6]⟩,
    ⟨4, some 8, none, .p .mov, [.t 0]⟩,
    ⟨5, some 9, none, .p .nilCheck, [.t 8]⟩,
    ⟨6, some 10, none, .p (.faddr 0), [.t 9]⟩,
    ⟨7, some 11, none, .r (.load false 1) false, [.t 10]⟩,
    ⟨8, some 12, none, .p .len, [.t 11]⟩,
    ⟨9, some 13, none, .p (.bin .lss), [.t 7, .t 12]⟩])
   (.cond (.t 13) (.reg 0 [⟨0, some 14, none, .p .mov, [.t 0]⟩,
    ⟨1, some 15, none, .p .nilCheck, [.t 14]⟩,
    ⟨2, some 16, none, .p (.faddr 0), [.t 15]⟩,
    ⟨3, some 17, none, .r (.load false 1) false, [.t 16]⟩,
    ⟨4, some 18, none, .p .mov, [.t 0]⟩,
    ⟨5, some 19, none, .p .nilCheck, [.t 18]⟩,
    ⟨6, some 20, none, .p (.faddr 1), [.t 19]⟩,
    ⟨7, some 21, none, .r (.load false 1) false, [.t 20]⟩,
    ⟨8, some 22, none, .p (.idx 1), [.t 17, .t 21]⟩,
    ⟨9, some 23, none, .r (.load false 1) false, [.t 22]⟩,
    ⟨10, some 24, none, .p (.conv .i64), [.t 23]⟩,
    ⟨11, some 3, none, .p .mov, [.t 24]⟩])
   (.skip)))
   (.seq (.reg 0 [⟨0, some 25, none, .p .mov, [.t 0]⟩,
    ⟨1, some 26, none, .p .nilCheck, [.t 25]⟩,
    ⟨2, some 27, none, .p (.faddr 1), [.t 26]⟩,
    ⟨3, some 28, none, .r (.load false 1) false, [.t 27]⟩,
    ⟨4, some 29, none, .p (.bin .add), [.t 28, .c (.int .i64 1)]⟩,
    ⟨5, some 30, none, .p .nilCheck, [.t 25]⟩,
    ⟨6, some 31, none, .p (.faddr 1), [.t 30]⟩,
    ⟨7, none, none, .e (.store 1) [] [], [.t 31, .t 29]⟩])
   (.seq (.reg 0 [⟨0, some 32, none, .p .mov, [.t 0]⟩,
    ⟨1, some 33, none, .p .mov, [.t 0]⟩,
    ⟨2, some 34, none, .p .nilCheck, [.t 33]⟩,
    ⟨3, some 35, none, .p (.faddr 2), [.t 34]⟩,
    ⟨4, some 36, none, .r (.load false 1) false, [.t 35]⟩,
    ⟨5, some 37, none, .p (.bin .mul), [.t 36, .c (.int .u64 6364136223846793005)]⟩,
    ⟨6, some 38, none, .p .mov, [.t 3]⟩,
    ⟨7, some 39, none, .p (.conv .u64), [.t 38]⟩,
    ⟨8, some 40, none, .p (.bin .add), [.t 37, .t 39]⟩,
    ⟨9, some 41, none, .p (.bin .add), [.t 40, .c (.int .u64 1442695040888963407)]⟩,
    ⟨10, some 42, none, .p .nilCheck, [.t 32]⟩,
    ⟨11, some 43, none, .p (.faddr 2), [.t 42]⟩,
    ⟨12, none, none, .e (.store 1) [] [], [.t 43, .t 41]⟩])
   (.seq (.seq (.reg 0 [⟨0, some 44, none, .p .mov, [.t 0]⟩,
    ⟨1, some 45, none, .p .nilCheck, [.t 44]⟩,
    ⟨2, some 46, none, .p (.faddr 1), [.t 45]⟩,
    ⟨3, some 47, none, .r (.load false 1) false, [.t 46]⟩,
    ⟨4, some 48, none, .p .mov, [.t 0]⟩,
    ⟨5, some 49, none, .p .nilCheck, [.t 48]⟩,
    ⟨6, some 50, none, .p (.faddr 0), [.t 49]⟩,
    ⟨7, some 51, none, .r (.load false 1) false, [.t 50]⟩,
    ⟨8, some 52, none, .p .len, [.t 51]⟩,
    ⟨9, some 53, none, .p (.bin .leq), [.t 47, .t 52]⟩])
   (.cond (.t 53) (.seq (.reg 0 [⟨0, some 54, none, .p .mov, [.t 3]⟩,
    ⟨1, some 2, none, .p .mov, [.t 54]⟩])
   (.ret))
   (.skip)))
   (.seq (.reg 0 [⟨0, some 55, none, .p .mov, [.t 0]⟩,
    ⟨1, some 56, none, .p .nilCheck, [.t 55]⟩,
    ⟨2, some 57, none, .p (.faddr 2), [.t 56]⟩,
    ⟨3, some 58, none, .r (.load false 1) false, [.t 57]⟩,
    ⟨4, some 59, none, .p (.bin .shr), [.t 58, .c (.int .u64 40)]⟩,
    ⟨5, some 60, none, .p (.bin .and), [.t 59, .c (.int .u64 255)]⟩,
    ⟨6, some 61, none, .p (.conv .i64), [.t 60]⟩,
    ⟨7, some 2, none, .p .mov, [.t 61]⟩])
   (.ret))))))),
  [.tmp 2]⟩
/- loop.example/g00641/impl.truth -/
def g141 : GL.Fn := ⟨.seq (.reg 0 [⟨0, some 2, none, .p .mov, [.c (.int .i64 0)]⟩])
   (.seq (.seq (.reg 0 [⟨0, some 3, none, .p .mov, [.t 0]⟩])
   (.cond (.t 3) (.seq (.reg 0 [⟨0, some 2, none, .p .mov, [.c (.int .i64 2)]⟩])
   (.ret))
   (.skip)))
   (.seq (.reg 0 [⟨0, some 2, none, .p .mov, [.c (.int .i64 0)]⟩])
   (.ret))),
  [.tmp 2]⟩
/- loop.example/g00641/spec.l1Is -/
def g142 : GL.Fn := ⟨.seq (.reg 0 [⟨0, some 2, none, .p .mov, [.c (.int .i64 0)]⟩])
   (.seq (.seq (.reg 0 [⟨0, some 3, none, .p .mov, [.t 0]⟩])
   (.cond (.t 3) (.seq (.reg 0 [⟨0, some 2, none, .p .mov, [.c (.int .i64 2)]⟩])
   (.ret))
   (.skip)))
   (.seq (.reg 0 [⟨0, some 2, none, .p .mov, [.c (.int .i64 0)]⟩])
   (.ret))),
  [.tmp 2]⟩
/- (*loop.example/g00641/spec.l1Cur).small -/
def g143 : GL.Fn := ⟨.seq (.reg 0 [⟨0, some 2, none, .l (.alloc 2 [.bool false, .int .i64 0]), []⟩])
   (.seq (.seq (.reg 0 [⟨0, some 3, none, .p .mov, [.t 0]⟩,
    ⟨1, some 4, none, .e .call [] [], [.f 92, .t 3, .c (.int .i64 5)]⟩])
   (.cond (.t 4) (.seq (.reg 0 [⟨0, some 5, none, .p (.build [.bool false, .int .i64 0] [(0, 1)]), [.c (.bool true)]⟩,
    ⟨1, none, none, .l (.store 2 2), [.t 2, .t 5]⟩])
   (.ret))
   (.skip)))
   (.seq (.reg 0 [⟨0, some 6, none, .p .mov, [.t 0]⟩,
    ⟨1, some 7, none, .e .call [] [], [.f 91, .t 6, .c (.int .i64 4)]⟩,
    ⟨2, some 8, none, .p (.build [.bool false, .int .i64 0] [(1, 1)]), [.t 7]⟩,
    ⟨3, none, none, .l (.store 2 2), [.t 2, .t 8]⟩])
   (.ret))),
  [.cellL 2 2 true 2]⟩
end GL
