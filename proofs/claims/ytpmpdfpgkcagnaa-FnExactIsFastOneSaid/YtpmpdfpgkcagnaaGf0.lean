import Derived.Test.YtpmpdfpgkcagnaaGlA
/- GL code of functions. -/
set_option linter.unusedSimpArgs false
set_option linter.unusedVariables false
set_option linter.unnecessarySimpa false
namespace GL
open Go
/- loop.example/g00641/laws.FnExactIsFastOne -/
def g445 : GL.Fn := ⟨.seq (.reg 0 [⟨0, some 3, none, .l (.box 3 3), [.t 0]⟩,
    ⟨1, some 6, none, .p .mov, [.c (.bool false)]⟩])
   (.seq (.seq (.reg 0 [⟨0, some 14, none, .p .mov, [.t 2]⟩,
    ⟨1, some 15, none, .p .len, [.t 14]⟩,
    ⟨2, some 16, none, .p (.bin .gtr), [.t 15, .c (.int .i64 1048576)]⟩])
   (.cond (.t 16) (.seq (.reg 0 [⟨0, some 6, none, .p .mov, [.c (.bool true)]⟩])
   (.ret))
   (.skip)))
   (.seq (.reg 0 [⟨0, some 7, none, .p .mov, [.c (.int .i64 1048576)]⟩])
   (.seq (.reg 0 [⟨0, some 17, none, .l (.load 3 true 3), [.t 3]⟩,
    ⟨1, some 18, none, .p .mov, [.t 7]⟩,
    ⟨2, some 19, none, .e .call [] [], [.f 439, .t 17, .t 18]⟩,
    ⟨3, some 7, none, .p .mov, [.t 19]⟩])
   (.seq (.seq (.reg 0 [⟨0, some 20, none, .p .mov, [.t 7]⟩,
    ⟨1, some 21, none, .p (.bin .lss), [.t 20, .c (.int .i64 0)]⟩])
   (.cond (.t 21) (.seq (.reg 0 [⟨0, some 6, none, .p .mov, [.c (.bool true)]⟩])
   (.ret))
   (.skip)))
   (.seq (.reg 0 [⟨0, some 23, none, .l (.load 3 true 3), [.t 3]⟩,
    ⟨1, some 24, none, .e .call [] [], [.f 440, .t 23]⟩,
    ⟨2, some 25, none, .p .mov, [.t 1]⟩,
    ⟨3, some 26, none, .p .mov, [.t 2]⟩,
    ⟨4, some 27, none, .e .call [] [], [.f 293, .t 26]⟩,
    ⟨5, some 28, none, .e .call [] [], [.f 446, .t 24, .t 25, .t 27]⟩,
    ⟨6, some 22, none, .p .mov, [.t 28]⟩,
    ⟨7, some 29, none, .p (.extract 0), [.t 22]⟩,
    ⟨8, some 30, none, .p (.extract 1), [.t 22]⟩,
    ⟨9, some 8, none, .p .mov, [.t 29]⟩,
    ⟨10, some 9, none, .p .mov, [.t 30]⟩])
   (.seq (.reg 0 [⟨0, some 31, none, .l (.load 3 true 3), [.t 3]⟩,
    ⟨1, some 32, none, .e .call [] [], [.f 440, .t 31]⟩,
    ⟨2, some 10, none, .l (.alloc 10 [.int .i64 0, .nils, .nils]), []⟩,
    ⟨3, none, none, .l (.store 10 3), [.t 10, .t 32]⟩])
   (.seq (.reg 0 [⟨0, some 33, none, .p .mov, [.t 2]⟩,
    ⟨1, some 34, none, .e .call [] [], [.f 293, .t 33]⟩,
    ⟨2, some 11, none, .p .mov, [.t 34]⟩])
   (.seq (.reg 0 [⟨0, some 36, none, .l (.load 10 true 3), [.t 10]⟩,
    ⟨1, some 37, none, .p .mov, [.t 1]⟩,
    ⟨2, some 38, none, .p .mov, [.t 11]⟩,
    ⟨3, some 39, none, .e .call [] [], [.f 447, .t 36, .t 37, .t 38]⟩,
    ⟨4, some 35, none, .p .mov, [.t 39]⟩,
    ⟨5, some 40, none, .p (.extract 0), [.t 35]⟩,
    ⟨6, some 41, none, .p (.extract 1), [.t 35]⟩,
    ⟨7, some 12, none, .p .mov, [.t 40]⟩,
    ⟨8, some 13, none, .p .mov, [.t 41]⟩])
   (.seq (.seq (.reg 0 [⟨0, some 42, none, .p .mov, [.t 12]⟩,
    ⟨1, some 43, none, .p .mov, [.t 8]⟩,
    ⟨2, some 44, none, .p (.eqB true), [.t 42, .t 43]⟩,
    ⟨3, some 45, none, .p .mov, [.t 44]⟩,
    ⟨4, some 46, some (45, false), .p .mov, [.t 13]⟩,
    ⟨5, some 47, some (45, false), .p .mov, [.t 9]⟩,
    ⟨6, some 48, some (45, false), .p (.eqB true), [.t 46, .t 47]⟩,
    ⟨7, some 49, none, .p .pick, [.t 45, .c (.bool true), .t 48]⟩])
   (.cond (.t 49) (.seq (.reg 0 [⟨0, some 6, none, .p .mov, [.c (.bool false)]⟩])
   (.ret))
   (.skip)))
   (.seq (.seq (.reg 0 [⟨0, some 50, none, .l (.load 10 true 3), [.t 10]⟩,
    ⟨1, some 51, none, .l (.load 3 true 3), [.t 3]⟩,
    ⟨2, some 52, none, .e .call [] [], [.f 440, .t 51]⟩,
    ⟨3, some 53, none, .e .call [] [], [.f 443, .t 50, .t 52]⟩,
    ⟨4, some 54, none, .p (.un .not), [.t 53]⟩])
   (.cond (.t 54) (.seq (.reg 0 [⟨0, some 6, none, .p .mov, [.c (.bool false)]⟩])
   (.ret))
   (.skip)))
   (.seq (.seq (.reg 0 [⟨0, some 55, none, .p .mov, [.t 11]⟩,
    ⟨1, some 56, none, .p .mov, [.t 2]⟩,
    ⟨2, some 57, none, .e .call [] [], [.f 293, .t 56]⟩,
    ⟨3, some 58, none, .e .call [] [], [.f 296, .t 55, .t 57]⟩,
    ⟨4, some 59, none, .p (.un .not), [.t 58]⟩])
   (.cond (.t 59) (.seq (.reg 0 [⟨0, some 6, none, .p .mov, [.c (.bool false)]⟩])
   (.ret))
   (.skip)))
   (.seq (.reg 0 [⟨0, some 6, none, .p .mov, [.c (.bool true)]⟩])
   (.ret))))))))))))),
  [.tmp 6]⟩
/- loop.example/g00641/laws.szHeard -/
def g439 : GL.Fn := ⟨.seq (.reg 0 [⟨0, some 2, none, .l (.box 2 3), [.t 0]⟩,
    ⟨1, some 4, none, .p .mov, [.c (.int .i64 0)]⟩])
   (.seq (.reg 0 [⟨0, some 5, none, .p (.faddr 1), [.t 2]⟩,
    ⟨1, some 6, none, .l (.load 2 false 1), [.t 5]⟩,
    ⟨2, some 7, none, .p .mov, [.t 1]⟩,
    ⟨3, some 8, none, .e .call [] [], [.f 514, .t 6, .t 7]⟩,
    ⟨4, some 1, none, .p .mov, [.t 8]⟩])
   (.seq (.seq (.reg 0 [⟨0, some 9, none, .p .mov, [.t 1]⟩,
    ⟨1, some 10, none, .p (.bin .lss), [.t 9, .c (.int .i64 0)]⟩])
   (.cond (.t 10) (.seq (.reg 0 [⟨0, some 4, none, .p .mov, [.c (.int .i64 (-1))]⟩])
   (.ret))
   (.skip)))
   (.seq (.reg 0 [⟨0, some 11, none, .p (.faddr 2), [.t 2]⟩,
    ⟨1, some 12, none, .l (.load 2 false 1), [.t 11]⟩,
    ⟨2, some 13, none, .p .mov, [.t 1]⟩,
    ⟨3, some 14, none, .e .call [] [], [.f 367, .t 12, .t 13]⟩,
    ⟨4, some 1, none, .p .mov, [.t 14]⟩])
   (.seq (.seq (.reg 0 [⟨0, some 15, none, .p .mov, [.t 1]⟩,
    ⟨1, some 16, none, .p (.bin .lss), [.t 15, .c (.int .i64 0)]⟩])
   (.cond (.t 16) (.seq (.reg 0 [⟨0, some 4, none, .p .mov, [.c (.int .i64 (-1))]⟩])
   (.ret))
   (.skip)))
   (.seq (.reg 0 [⟨0, some 17, none, .p .mov, [.t 1]⟩,
    ⟨1, some 4, none, .p .mov, [.t 17]⟩])
   (.ret)))))),
  [.tmp 4]⟩
/- loop.example/g00641/laws.toHeard -/
def g440 : GL.Fn := ⟨.seq (.reg 0 [⟨0, some 1, none, .l (.box 1 3), [.t 0]⟩,
    ⟨1, some 2, none, .l (.alloc 2 [.int .i64 0, .nils, .nils]), []⟩])
   (.seq (.reg 0 [⟨0, some 3, none, .l (.alloc 3 [.int .i64 0, .nils, .nils]), []⟩])
   (.seq (.reg 0 [⟨0, some 4, none, .p (.faddr 0), [.t 1]⟩,
    ⟨1, some 5, none, .l (.load 1 false 1), [.t 4]⟩,
    ⟨2, some 6, none, .p (.faddr 0), [.t 3]⟩,
    ⟨3, none, none, .l (.store 3 1), [.t 6, .t 5]⟩])
   (.seq (.reg 0 [⟨0, some 7, none, .p (.faddr 1), [.t 1]⟩,
    ⟨1, some 8, none, .l (.load 1 false 1), [.t 7]⟩,
    ⟨2, some 9, none, .e .call [] [], [.f 517, .t 8]⟩,
    ⟨3, some 10, none, .p (.faddr 1), [.t 3]⟩,
    ⟨4, none, none, .l (.store 3 1), [.t 10, .t 9]⟩])
   (.seq (.reg 0 [⟨0, some 11, none, .p (.faddr 2), [.t 1]⟩,
    ⟨1, some 12, none, .l (.load 1 false 1), [.t 11]⟩,
    ⟨2, some 13, none, .e .call [] [], [.f 371, .t 12]⟩,
    ⟨3, some 14, none, .p (.faddr 2), [.t 3]⟩,
    ⟨4, none, none, .l (.store 3 1), [.t 14, .t 13]⟩])
   (.seq (.reg 0 [⟨0, some 15, none, .l (.load 3 true 3), [.t 3]⟩,
    ⟨1, none, none, .l (.store 2 3), [.t 2, .t 15]⟩])
   (.ret)))))),
  [.cellL 2 2 true 3]⟩
/- loop.example/g00641/laws.eqIntS -/
def g296_0 : GL.Code := .seq (.seq (.reg 0 [⟨0, some 11, none, .p .mov, [.t 5]⟩,
    ⟨1, some 12, none, .p .mov, [.t 0]⟩,
    ⟨2, some 13, none, .p .len, [.t 12]⟩,
    ⟨3, some 14, none, .p (.bin .lss), [.t 11, .t 13]⟩])
   (.cond (.t 14) (.skip)
   (.exit 0)))
   (.seq (.block 1 (.seq (.reg 0 [⟨0, some 17, none, .p .mov, [.t 0]⟩,
    ⟨1, some 18, none, .p .mov, [.t 5]⟩,
    ⟨2, some 19, none, .p (.idx 1), [.t 17, .t 18]⟩,
    ⟨3, some 20, none, .r (.load false 1) false, [.t 19]⟩,
    ⟨4, some 21, none, .p .mov, [.t 1]⟩,
    ⟨5, some 22, none, .p .mov, [.t 5]⟩,
    ⟨6, some 23, none, .p (.idx 1), [.t 21, .t 22]⟩,
    ⟨7, some 24, none, .r (.load false 1) false, [.t 23]⟩,
    ⟨8, some 25, none, .p (.bin .neq), [.t 20, .t 24]⟩])
   (.cond (.t 25) (.seq (.reg 0 [⟨0, some 4, none, .p .mov, [.c (.bool false)]⟩])
   (.ret))
   (.skip))))
   (.reg 0 [⟨0, some 15, none, .p .mov, [.t 5]⟩,
    ⟨1, some 16, none, .p (.bin .add), [.t 15, .c (.int .i64 1)]⟩,
    ⟨2, some 5, none, .p .mov, [.t 16]⟩]))
def g296 : GL.Fn := ⟨.seq (.reg 0 [⟨0, some 4, none, .p .mov, [.c (.bool false)]⟩])
   (.seq (.seq (.reg 0 [⟨0, some 6, none, .p .mov, [.t 0]⟩,
    ⟨1, some 7, none, .p .len, [.t 6]⟩,
    ⟨2, some 8, none, .p .mov, [.t 1]⟩,
    ⟨3, some 9, none, .p .len, [.t 8]⟩,
    ⟨4, some 10, none, .p (.bin .neq), [.t 7, .t 9]⟩])
   (.cond (.t 10) (.seq (.reg 0 [⟨0, some 4, none, .p .mov, [.c (.bool false)]⟩])
   (.ret))
   (.skip)))
   (.seq (.seq (.reg 0 [⟨0, some 5, none, .p .mov, [.c (.int .i64 0)]⟩])
   (.block 0 (.loop g296_0)))
   (.seq (.reg 0 [⟨0, some 4, none, .p .mov, [.c (.bool true)]⟩])
   (.ret)))),
  [.tmp 4]⟩
/- loop.example/g00641/laws.eqHeard -/
def g443 : GL.Fn := ⟨.seq (.reg 0 [⟨0, some 2, none, .l (.box 2 3), [.t 0]⟩,
    ⟨1, some 3, none, .l (.box 3 3), [.t 1]⟩,
    ⟨2, some 4, none, .p .mov, [.c (.bool false)]⟩])
   (.seq (.seq (.reg 0 [⟨0, some 5, none, .p (.faddr 0), [.t 2]⟩,
    ⟨1, some 6, none, .l (.load 2 false 1), [.t 5]⟩,
    ⟨2, some 7, none, .p (.faddr 0), [.t 3]⟩,
    ⟨3, some 8, none, .l (.load 3 false 1), [.t 7]⟩,
    ⟨4, some 9, none, .p (.bin .neq), [.t 6, .t 8]⟩])
   (.cond (.t 9) (.seq (.reg 0 [⟨0, some 4, none, .p .mov, [.c (.bool false)]⟩])
   (.ret))
   (.skip)))
   (.seq (.seq (.reg 0 [⟨0, some 10, none, .p (.faddr 1), [.t 2]⟩,
    ⟨1, some 11, none, .l (.load 2 false 1), [.t 10]⟩,
    ⟨2, some 12, none, .p (.faddr 1), [.t 3]⟩,
    ⟨3, some 13, none, .l (.load 3 false 1), [.t 12]⟩,
    ⟨4, some 14, none, .e .call [] [], [.f 520, .t 11, .t 13]⟩,
    ⟨5, some 15, none, .p (.un .not), [.t 14]⟩])
   (.cond (.t 15) (.seq (.reg 0 [⟨0, some 4, none, .p .mov, [.c (.bool false)]⟩])
   (.ret))
   (.skip)))
   (.seq (.seq (.reg 0 [⟨0, some 16, none, .p (.faddr 2), [.t 2]⟩,
    ⟨1, some 17, none, .l (.load 2 false 1), [.t 16]⟩,
    ⟨2, some 18, none, .p (.faddr 2), [.t 3]⟩,
    ⟨3, some 19, none, .l (.load 3 false 1), [.t 18]⟩,
    ⟨4, some 20, none, .e .call [] [], [.f 374, .t 17, .t 19]⟩,
    ⟨5, some 21, none, .p (.un .not), [.t 20]⟩])
   (.cond (.t 21) (.seq (.reg 0 [⟨0, some 4, none, .p .mov, [.c (.bool false)]⟩])
   (.ret))
   (.skip)))
   (.seq (.reg 0 [⟨0, some 4, none, .p .mov, [.c (.bool true)]⟩])
   (.ret))))),
  [.tmp 4]⟩
/- loop.example/g00641/spec.IsFastOne -/
def g446_0 : GL.Code := .seq (.reg 0 [⟨0, some 31, none, .p (.bin .lss), [.t 30, .t 29]⟩])
   (.seq (.cond (.t 31) (.skip)
   (.exit 0))
   (.seq (.block 1 (.seq (.reg 0 [⟨0, some 32, none, .p (.idx 1), [.t 28, .t 30]⟩,
    ⟨1, some 33, none, .r (.load false 1) false, [.t 32]⟩,
    ⟨2, some 9, none, .p .mov, [.t 33]⟩])
   (.seq (.reg 0 [⟨0, some 34, none, .l (.load 3 true 3), [.t 3]⟩,
    ⟨1, some 35, none, .p .mov, [.t 9]⟩,
    ⟨2, some 36, none, .p .mov, [.t 1]⟩,
    ⟨4, some 38, none, .l (.load 3 true 3), [.t 3]⟩,
    ⟨5, some 39, none, .p .mov, [.t 2]⟩,
    ⟨6, some 40, none, .p (.idx 1), [.t 39, .c (.int .i64 0)]⟩,
    ⟨7, some 41, none, .r (.load false 1) true, [.t 40]⟩,
    ⟨3, some 37, none, .e .call [7] [], [.f 516, .t 34, .t 35, .t 36]⟩,
    ⟨8, some 42, none, .p .mov, [.t 1]⟩,
    ⟨9, some 43, none, .e .call [] [], [.f 516, .t 38, .t 41, .t 42]⟩,
    ⟨10, some 44, none, .e .call [] [], [.f 356, .t 37, .t 43]⟩,
    ⟨11, some 45, none, .p (.un .not), [.t 44]⟩])
   (.cond (.t 45) (.seq (.reg 0 [⟨0, some 6, none, .p .mov, [.c (.bool false)]⟩,
    ⟨1, some 7, none, .p .mov, [.c (.bool true)]⟩])
   (.ret))
   (.skip)))))
   (.reg 0 [⟨0, some 46, none, .p (.bin .add), [.t 30, .c (.int .i64 1)]⟩,
    ⟨1, some 30, none, .p .mov, [.t 46]⟩])))
def g446 : GL.Fn := ⟨.seq (.reg 0 [⟨0, some 3, none, .l (.box 3 3), [.t 0]⟩,
    ⟨1, some 6, none, .p .mov, [.c (.bool false)]⟩,
    ⟨2, some 7, none, .p .mov, [.c (.bool false)]⟩])
   (.seq (.seq (.reg 0 [⟨0, some 10, none, .l (.load 3 true 3), [.t 3]⟩,
    ⟨1, some 11, none, .p .mov, [.t 1]⟩,
    ⟨2, some 12, none, .e .call [] [], [.f 515, .t 10, .t 11]⟩,
    ⟨3, some 13, none, .p (.un .not), [.t 12]⟩,
    ⟨4, some 14, none, .p .mov, [.t 13]⟩,
    ⟨5, some 15, some (14, false), .l (.load 3 true 3), [.t 3]⟩,
    ⟨6, some 16, some (14, false), .p .mov, [.t 2]⟩,
    ⟨7, some 17, some (14, false), .e .call [] [], [.f 522, .t 15, .t 16]⟩,
    ⟨8, some 18, some (14, false), .p (.un .not), [.t 17]⟩,
    ⟨9, some 19, none, .p .pick, [.t 14, .c (.bool true), .t 18]⟩,
    ⟨10, some 20, none, .p .mov, [.t 19]⟩,
    ⟨11, some 21, some (20, false), .p .mov, [.t 2]⟩,
    ⟨12, some 22, some (20, false), .p .len, [.t 21]⟩,
    ⟨13, some 23, some (20, false), .p (.faddr 0), [.t 3]⟩,
    ⟨14, some 24, some (20, false), .l (.load 3 false 1), [.t 23]⟩,
    ⟨15, some 25, some (20, false), .e .call [] [], [.f 341, .t 24]⟩,
    ⟨16, some 26, some (20, false), .p (.bin .lss), [.t 22, .t 25]⟩,
    ⟨17, some 27, none, .p .pick, [.t 20, .c (.bool true), .t 26]⟩])
   (.cond (.t 27) (.seq (.reg 0 [⟨0, some 6, none, .p .mov, [.c (.bool false)]⟩,
    ⟨1, some 7, none, .p .mov, [.c (.bool false)]⟩])
   (.ret))
   (.skip)))
   (.seq (.seq (.reg 0 [⟨0, some 28, none, .p .mov, [.t 2]⟩,
    ⟨1, some 29, none, .p .len, [.t 28]⟩,
    ⟨2, some 30, none, .p .mov, [.c (.int .i64 0)]⟩])
   (.block 0 (.loop g446_0)))
   (.seq (.reg 0 [⟨0, some 6, none, .p .mov, [.c (.bool true)]⟩,
    ⟨1, some 7, none, .p .mov, [.c (.bool true)]⟩])
   (.ret)))),
  [.tmp 6, .tmp 7]⟩
/- loop.example/g00641/laws.toIntS -/
def g293_0 : GL.Code := .seq (.seq (.reg 0 [⟨0, some 8, none, .p .mov, [.t 4]⟩,
    ⟨1, some 9, none, .p .mov, [.t 0]⟩,
    ⟨2, some 10, none, .p .len, [.t 9]⟩,
    ⟨3, some 11, none, .p (.bin .lss), [.t 8, .t 10]⟩])
   (.cond (.t 11) (.skip)
   (.exit 0)))
   (.seq (.block 1 (.reg 0 [⟨0, some 14, none, .p .mov, [.t 3]⟩,
    ⟨1, some 15, none, .p .mov, [.t 4]⟩,
    ⟨2, some 16, none, .p .mov, [.t 0]⟩,
    ⟨3, some 17, none, .p .mov, [.t 4]⟩,
    ⟨4, some 18, none, .p (.idx 1), [.t 16, .t 17]⟩,
    ⟨5, some 19, none, .r (.load false 1) false, [.t 18]⟩,
    ⟨6, some 20, none, .p (.idx 1), [.t 14, .t 15]⟩,
    ⟨7, none, none, .e (.store 1) [] [], [.t 20, .t 19]⟩]))
   (.reg 0 [⟨0, some 12, none, .p .mov, [.t 4]⟩,
    ⟨1, some 13, none, .p (.bin .add), [.t 12, .c (.int .i64 1)]⟩,
    ⟨2, some 4, none, .p .mov, [.t 13]⟩]))
def g293 : GL.Fn := ⟨.seq (.reg 0 [⟨0, some 2, none, .p .mov, [.c (.nils)]⟩])
   (.seq (.reg 0 [⟨0, some 5, none, .p .mov, [.t 0]⟩,
    ⟨1, some 6, none, .p .len, [.t 5]⟩,
    ⟨2, some 7, none, .e (.new (.make 1 8 [.int .i64 0])) [] [], [.t 6, .t 6]⟩,
    ⟨3, some 3, none, .p .mov, [.t 7]⟩])
   (.seq (.seq (.reg 0 [⟨0, some 4, none, .p .mov, [.c (.int .i64 0)]⟩])
   (.block 0 (.loop g293_0)))
   (.seq (.reg 0 [⟨0, some 21, none, .p .mov, [.t 3]⟩,
    ⟨1, some 2, none, .p .mov, [.t 21]⟩])
   (.ret)))),
  [.tmp 2]⟩
/- loop.example/g00641/impl.IsFastOne -/
def g447 : GL.Fn := ⟨.seq (.reg 0 [⟨0, some 3, none, .l (.box 3 3), [.t 0]⟩,
    ⟨1, some 6, none, .p .mov, [.c (.bool false)]⟩,
    ⟨2, some 7, none, .p .mov, [.c (.bool false)]⟩])
   (.seq (.seq (.reg 0 [⟨0, some 8, none, .l (.load 3 true 3), [.t 3]⟩,
    ⟨1, some 9, none, .e .call [] [], [.f 464, .t 8]⟩,
    ⟨2, some 10, none, .p (.un .not), [.t 9]⟩,
    ⟨3, some 11, none, .p .mov, [.t 10]⟩,
    ⟨4, some 12, some (11, false), .l (.load 3 true 3), [.t 3]⟩,
    ⟨5, some 13, some (11, false), .p .mov, [.t 1]⟩,
    ⟨6, some 14, some (11, false), .e .call [] [], [.f 518, .t 12, .t 13]⟩,
    ⟨7, some 15, some (11, false), .p (.un .not), [.t 14]⟩,
    ⟨8, some 16, none, .p .pick, [.t 11, .c (.bool true), .t 15]⟩,
    ⟨9, some 17, none, .p .mov, [.t 16]⟩,
    ⟨10, some 18, some (17, false), .p (.faddr 0), [.t 3]⟩,
    ⟨11, some 19, some (17, false), .l (.load 3 false 1), [.t 18]⟩,
    ⟨12, some 20, some (17, false), .p .mov, [.t 2]⟩,
    ⟨13, some 21, some (17, false), .e .call [] [], [.f 314, .t 19, .t 20]⟩,
    ⟨14, some 22, some (17, false), .p (.un .not), [.t 21]⟩,
    ⟨15, some 23, none, .p .pick, [.t 17, .c (.bool true), .t 22]⟩,
    ⟨16, some 24, none, .p .mov, [.t 23]⟩,
    ⟨17, some 25, some (24, false), .p .mov, [.t 2]⟩,
    ⟨18, some 26, some (24, false), .p .len, [.t 25]⟩,
    ⟨19, some 27, some (24, false), .p (.faddr 0), [.t 3]⟩,
    ⟨20, some 28, some (24, false), .l (.load 3 false 1), [.t 27]⟩,
    ⟨21, some 29, some (24, false), .e .call [] [], [.f 339, .t 28]⟩,
    ⟨22, some 30, some (24, false), .p (.bin .lss), [.t 26, .t 29]⟩,
    ⟨23, some 31, none, .p .pick, [.t 24, .c (.bool true), .t 30]⟩])
   (.cond (.t 31) (.seq (.reg 0 [⟨0, some 6, none, .p .mov, [.c (.bool false)]⟩,
    ⟨1, some 7, none, .p .mov, [.c (.bool false)]⟩])
   (.ret))
   (.skip)))
   (.seq (.reg 0 [⟨0, some 32, none, .l (.load 3 true 3), [.t 3]⟩,
    ⟨1, some 33, none, .p .mov, [.t 1]⟩,
    ⟨2, some 34, none, .p .mov, [.t 2]⟩,
    ⟨3, some 35, none, .e .call [] [], [.f 523, .t 32, .t 33, .t 34]⟩,
    ⟨4, some 6, none, .p .mov, [.t 35]⟩,
    ⟨5, some 7, none, .p .mov, [.c (.bool true)]⟩])
   (.ret))),
  [.tmp 6, .tmp 7]⟩
/- loop.example/g00641/impl.GoodHeard -/
def g464 : GL.Fn := ⟨.seq (.reg 0 [⟨0, some 1, none, .l (.box 1 3), [.t 0]⟩,
    ⟨1, some 2, none, .p .mov, [.c (.bool false)]⟩])
   (.seq (.reg 0 [⟨0, some 4, none, .p (.faddr 1), [.t 1]⟩,
    ⟨1, some 5, none, .l (.load 1 false 1), [.t 4]⟩,
    ⟨2, some 6, none, .p .len, [.t 5]⟩,
    ⟨3, some 3, none, .e (.new (.alloc [.int .i64 0])) [] [], []⟩,
    ⟨4, none, none, .e (.store 1) [] [], [.t 3, .t 6]⟩])
   (.seq (.reg 0 [⟨0, some 7, none, .p (.faddr 0), [.t 1]⟩,
    ⟨1, some 8, none, .l (.load 1 false 1), [.t 7]⟩,
    ⟨2, some 9, none, .e .call [] [], [.f 318, .t 8]⟩,
    ⟨3, some 10, none, .p .mov, [.t 9]⟩,
    ⟨4, some 11, some (10, true), .r (.load false 1) false, [.t 3]⟩,
    ⟨5, some 12, some (10, true), .p (.bin .leq), [.t 11, .c (.int .i64 8)]⟩,
    ⟨6, some 13, none, .p .pick, [.t 10, .t 12, .c (.bool false)]⟩,
    ⟨7, some 14, none, .p .mov, [.t 13]⟩,
    ⟨8, some 15, some (14, true), .p (.faddr 2), [.t 1]⟩,
    ⟨9, some 16, some (14, true), .l (.load 1 false 1), [.t 15]⟩,
    ⟨10, some 17, some (14, true), .p .len, [.t 16]⟩,
    ⟨11, some 18, some (14, true), .p (.faddr 0), [.t 1]⟩,
    ⟨12, some 19, some (14, true), .l (.load 1 false 1), [.t 18]⟩,
    ⟨13, some 20, some (14, true), .p (.bin .eql), [.t 17, .t 19]⟩,
    ⟨14, some 21, none, .p .pick, [.t 14, .t 20, .c (.bool false)]⟩,
    ⟨15, some 22, none, .p .mov, [.t 21]⟩,
    ⟨16, some 23, some (22, true), .p (.faddr 1), [.t 1]⟩,
    ⟨17, some 24, some (22, true), .l (.load 1 false 1), [.t 23]⟩,
    ⟨18, some 25, some (22, true), .e .call [] [], [.f 530, .t 24, .f 531]⟩,
    ⟨19, some 26, some (22, true), .p (.un .not), [.t 25]⟩,
    ⟨20, some 27, none, .p .pick, [.t 22, .t 26, .c (.bool false)]⟩,
    ⟨21, some 28, none, .p .mov, [.t 27]⟩,
    ⟨22, some 29, some (28, true), .p (.faddr 2), [.t 1]⟩,
    ⟨23, some 30, some (28, true), .l (.load 1 false 1), [.t 29]⟩,
    ⟨24, some 31, some (28, true), .p (.mkFn 532), [.t 3]⟩,
    ⟨25, some 32, some (28, true), .e .call [] [], [.f 335, .t 30, .t 31]⟩,
    ⟨26, some 33, some (28, true), .p (.un .not), [.t 32]⟩,
    ⟨27, some 34, none, .p .pick, [.t 28, .t 33, .c (.bool false)]⟩,
    ⟨28, some 2, none, .p .mov, [.t 34]⟩])
   (.ret))),
  [.tmp 2]⟩
/- loop.example/g00641/spec.GoodHeard -/
def g465_0 : GL.Code := .seq (.reg 0 [⟨0, some 32, none, .p (.bin .lss), [.t 31, .t 30]⟩])
   (.seq (.cond (.t 32) (.skip)
   (.exit 0))
   (.seq (.block 1 (.seq (.reg 0 [⟨0, some 33, none, .p (.idx 2), [.t 29, .t 31]⟩,
    ⟨1, some 34, none, .r (.load true 2) false, [.t 33]⟩,
    ⟨2, some 5, none, .l (.alloc 5 [.int .i64 0, .bool false]), []⟩,
    ⟨3, none, none, .l (.store 5 2), [.t 5, .t 34]⟩])
   (.seq (.reg 0 [⟨0, some 35, none, .l (.load 5 true 2), [.t 5]⟩,
    ⟨1, some 36, none, .e .call [] [], [.f 533, .t 35]⟩,
    ⟨2, some 37, none, .p (.un .not), [.t 36]⟩])
   (.cond (.t 37) (.seq (.reg 0 [⟨0, some 2, none, .p .mov, [.c (.bool false)]⟩])
   (.ret))
   (.skip)))))
   (.reg 0 [⟨0, some 38, none, .p (.bin .add), [.t 31, .c (.int .i64 1)]⟩,
    ⟨1, some 31, none, .p .mov, [.t 38]⟩])))
def g465_1 : GL.Code := .seq (.seq (.reg 0 [⟨0, some 57, none, .p .mov, [.t 8]⟩,
    ⟨1, some 58, none, .p .mov, [.t 3]⟩,
    ⟨2, some 59, none, .p (.bin .lss), [.t 57, .t 58]⟩])
   (.cond (.t 59) (.skip)
   (.exit 4)))
   (.seq (.block 5 (.seq (.reg 0 [⟨0, some 62, none, .p .mov, [.t 7]⟩,
    ⟨1, some 63, none, .p .mov, [.t 8]⟩,
    ⟨2, some 64, none, .e .call [] [], [.f 302, .t 62, .t 63]⟩,
    ⟨3, some 65, none, .p (.un .not), [.t 64]⟩])
   (.cond (.t 65) (.seq (.reg 0 [⟨0, some 2, none, .p .mov, [.c (.bool false)]⟩])
   (.ret))
   (.skip))))
   (.reg 0 [⟨0, some 60, none, .p .mov, [.t 8]⟩,
    ⟨1, some 61, none, .p (.bin .add), [.t 60, .c (.int .i64 1)]⟩,
    ⟨2, some 8, none, .p .mov, [.t 61]⟩]))
def g465_2 : GL.Code := .seq (.reg 0 [⟨0, some 43, none, .p (.bin .lss), [.t 42, .t 41]⟩])
   (.seq (.cond (.t 43) (.skip)
   (.exit 2))
   (.seq (.block 3 (.seq (.reg 0 [⟨0, some 44, none, .p (.idx 1), [.t 40, .t 42]⟩,
    ⟨1, some 45, none, .r (.load false 1) false, [.t 44]⟩,
    ⟨2, some 7, none, .p .mov, [.t 45]⟩])
   (.seq (.seq (.reg 0 [⟨0, some 46, none, .p .mov, [.t 7]⟩,
    ⟨1, some 47, none, .p .len, [.t 46]⟩,
    ⟨2, some 48, none, .p .mov, [.t 3]⟩,
    ⟨3, some 49, none, .p (.bin .neq), [.t 47, .t 48]⟩,
    ⟨4, some 50, none, .p .mov, [.t 49]⟩,
    ⟨5, some 51, some (50, false), .p .mov, [.t 7]⟩,
    ⟨6, some 52, some (50, false), .p .mov, [.t 3]⟩,
    ⟨7, some 53, some (50, false), .p (.bin .sub), [.t 52, .c (.int .i64 1)]⟩,
    ⟨8, some 54, some (50, false), .e .call [] [], [.f 94, .t 51, .c (.int .i64 0), .t 53]⟩,
    ⟨9, some 55, some (50, false), .p (.un .not), [.t 54]⟩,
    ⟨10, some 56, none, .p .pick, [.t 50, .c (.bool true), .t 55]⟩])
   (.cond (.t 56) (.seq (.reg 0 [⟨0, some 2, none, .p .mov, [.c (.bool false)]⟩])
   (.ret))
   (.skip)))
   (.seq (.reg 0 [⟨0, some 8, none, .p .mov, [.c (.int .i64 0)]⟩])
   (.block 4 (.loop g465_1))))))
   (.reg 0 [⟨0, some 66, none, .p (.bin .add), [.t 42, .c (.int .i64 1)]⟩,
    ⟨1, some 42, none, .p .mov, [.t 66]⟩])))
def g465 : GL.Fn := ⟨.seq (.reg 0 [⟨0, some 1, none, .l (.box 1 3), [.t 0]⟩,
    ⟨1, some 2, none, .p .mov, [.c (.bool false)]⟩])
   (.seq (.reg 0 [⟨0, some 9, none, .p (.faddr 1), [.t 1]⟩,
    ⟨1, some 10, none, .l (.load 1 false 1), [.t 9]⟩,
    ⟨2, some 11, none, .p .len, [.t 10]⟩,
    ⟨3, some 3, none, .p .mov, [.t 11]⟩])
   (.seq (.seq (.reg 0 [⟨0, some 12, none, .p (.faddr 0), [.t 1]⟩,
    ⟨1, some 13, none, .l (.load 1 false 1), [.t 12]⟩,
    ⟨2, some 14, none, .e .call [] [], [.f 321, .t 13]⟩,
    ⟨3, some 15, none, .p (.un .not), [.t 14]⟩,
    ⟨4, some 16, none, .p .mov, [.t 15]⟩,
    ⟨5, some 17, some (16, false), .p .mov, [.t 3]⟩,
    ⟨6, some 18, some (16, false), .p (.bin .gtr), [.t 17, .c (.int .i64 8)]⟩,
    ⟨7, some 19, none, .p .pick, [.t 16, .c (.bool true), .t 18]⟩,
    ⟨8, some 20, none, .p .mov, [.t 19]⟩,
    ⟨9, some 21, some (20, false), .p (.faddr 2), [.t 1]⟩,
    ⟨10, some 22, some (20, false), .l (.load 1 false 1), [.t 21]⟩,
    ⟨11, some 23, some (20, false), .p .len, [.t 22]⟩,
    ⟨12, some 24, some (20, false), .p (.faddr 0), [.t 1]⟩,
    ⟨13, some 25, some (20, false), .l (.load 1 false 1), [.t 24]⟩,
    ⟨14, some 26, some (20, false), .p (.bin .neq), [.t 23, .t 25]⟩,
    ⟨15, some 27, none, .p .pick, [.t 20, .c (.bool true), .t 26]⟩])
   (.cond (.t 27) (.seq (.reg 0 [⟨0, some 2, none, .p .mov, [.c (.bool false)]⟩])
   (.ret))
   (.skip)))
   (.seq (.seq (.reg 0 [⟨0, some 28, none, .p (.faddr 1), [.t 1]⟩,
    ⟨1, some 29, none, .l (.load 1 false 1), [.t 28]⟩,
    ⟨2, some 30, none, .p .len, [.t 29]⟩,
    ⟨3, some 31, none, .p .mov, [.c (.int .i64 0)]⟩])
   (.block 0 (.loop g465_0)))
   (.seq (.seq (.reg 0 [⟨0, some 39, none, .p (.faddr 2), [.t 1]⟩,
    ⟨1, some 40, none, .l (.load 1 false 1), [.t 39]⟩,
    ⟨2, some 41, none, .p .len, [.t 40]⟩,
    ⟨3, some 42, none, .p .mov, [.c (.int .i64 0)]⟩])
   (.block 2 (.loop g465_2)))
   (.seq (.reg 0 [⟨0, some 2, none, .p .mov, [.c (.bool true)]⟩])
   (.ret)))))),
  [.tmp 2]⟩
/- loop.example/g00641/laws.eqIntSS -/
def g374_0 : GL.Code := .seq (.seq (.reg 0 [⟨0, some 11, none, .p .mov, [.t 5]⟩,
    ⟨1, some 12, none, .p .mov, [.t 0]⟩,
    ⟨2, some 13, none, .p .len, [.t 12]⟩,
    ⟨3, some 14, none, .p (.bin .lss), [.t 11, .t 13]⟩])
   (.cond (.t 14) (.skip)
   (.exit 0)))
   (.seq (.block 1 (.seq (.reg 0 [⟨0, some 17, none, .p .mov, [.t 0]⟩,
    ⟨1, some 18, none, .p .mov, [.t 5]⟩,
    ⟨2, some 19, none, .p (.idx 1), [.t 17, .t 18]⟩,
    ⟨3, some 20, none, .r (.load false 1) false, [.t 19]⟩,
    ⟨4, some 21, none, .p .mov, [.t 1]⟩,
    ⟨5, some 22, none, .p .mov, [.t 5]⟩,
    ⟨6, some 23, none, .p (.idx 1), [.t 21, .t 22]⟩,
    ⟨7, some 24, none, .r (.load false 1) false, [.t 23]⟩,
    ⟨8, some 25, none, .e .call [] [], [.f 296, .t 20, .t 24]⟩,
    ⟨9, some 26, none, .p (.un .not), [.t 25]⟩])
   (.cond (.t 26) (.seq (.reg 0 [⟨0, some 4, none, .p .mov, [.c (.bool false)]⟩])
   (.ret))
   (.skip))))
   (.reg 0 [⟨0, some 15, none, .p .mov, [.t 5]⟩,
    ⟨1, some 16, none, .p (.bin .add), [.t 15, .c (.int .i64 1)]⟩,
    ⟨2, some 5, none, .p .mov, [.t 16]⟩]))
def g374 : GL.Fn := ⟨.seq (.reg 0 [⟨0, some 4, none, .p .mov, [.c (.bool false)]⟩])
   (.seq (.seq (.reg 0 [⟨0, some 6, none, .p .mov, [.t 0]⟩,
    ⟨1, some 7, none, .p .len, [.t 6]⟩,
    ⟨2, some 8, none, .p .mov, [.t 1]⟩,
    ⟨3, some 9, none, .p .len, [.t 8]⟩,
    ⟨4, some 10, none, .p (.bin .neq), [.t 7, .t 9]⟩])
   (.cond (.t 10) (.seq (.reg 0 [⟨0, some 4, none, .p .mov, [.c (.bool false)]⟩])
   (.ret))
   (.skip)))
   (.seq (.seq (.reg 0 [⟨0, some 5, none, .p .mov, [.c (.int .i64 0)]⟩])
   (.block 0 (.loop g374_0)))
   (.seq (.reg 0 [⟨0, some 4, none, .p .mov, [.c (.bool true)]⟩])
   (.ret)))),
  [.tmp 4]⟩
/- loop.example/g00641/laws.szDeedS -/
def g514 : GL.Fn := ⟨.seq (.reg 0 [⟨0, some 4, none, .p .mov, [.c (.int .i64 0)]⟩])
   (.seq (.reg 0 [⟨0, some 5, none, .p .mov, [.t 1]⟩,
    ⟨1, some 6, none, .p .mov, [.t 0]⟩,
    ⟨2, some 7, none, .p .len, [.t 6]⟩,
    ⟨3, some 8, none, .p (.bin .sub), [.t 5, .t 7]⟩,
    ⟨4, some 1, none, .p .mov, [.t 8]⟩])
   (.seq (.seq (.reg 0 [⟨0, some 9, none, .p .mov, [.t 1]⟩,
    ⟨1, some 10, none, .p (.bin .lss), [.t 9, .c (.int .i64 0)]⟩])
   (.cond (.t 10) (.seq (.reg 0 [⟨0, some 4, none, .p .mov, [.c (.int .i64 (-1))]⟩])
   (.ret))
   (.skip)))
   (.seq (.reg 0 [⟨0, some 11, none, .p .mov, [.t 1]⟩,
    ⟨1, some 4, none, .p .mov, [.t 11]⟩])
   (.ret)))),
  [.tmp 4]⟩
/- loop.example/g00641/laws.szIntSS -/
def g367_0 : GL.Code := .seq (.seq (.reg 0 [⟨0, some 12, none, .p .mov, [.t 5]⟩,
    ⟨1, some 13, none, .p .mov, [.t 0]⟩,
    ⟨2, some 14, none, .p .len, [.t 13]⟩,
    ⟨3, some 15, none, .p (.bin .lss), [.t 12, .t 14]⟩])
   (.cond (.t 15) (.skip)
   (.exit 0)))
   (.seq (.block 1 (.seq (.reg 0 [⟨0, some 18, none, .p .mov, [.t 0]⟩,
    ⟨1, some 19, none, .p .mov, [.t 5]⟩,
    ⟨2, some 20, none, .p (.idx 1), [.t 18, .t 19]⟩,
    ⟨3, some 21, none, .r (.load false 1) false, [.t 20]⟩,
    ⟨4, some 22, none, .p .mov, [.t 1]⟩,
    ⟨5, some 23, none, .e .call [] [], [.f 290, .t 21, .t 22]⟩,
    ⟨6, some 1, none, .p .mov, [.t 23]⟩])
   (.seq (.reg 0 [⟨0, some 24, none, .p .mov, [.t 1]⟩,
    ⟨1, some 25, none, .p (.bin .lss), [.t 24, .c (.int .i64 0)]⟩])
   (.cond (.t 25) (.seq (.reg 0 [⟨0, some 4, none, .p .mov, [.c (.int .i64 (-1))]⟩])
   (.ret))
   (.skip)))))
   (.reg 0 [⟨0, some 16, none, .p .mov, [.t 5]⟩,
    ⟨1, some 17, none, .p (.bin .add), [.t 16, .c (.int .i64 1)]⟩,
    ⟨2, some 5, none, .p .mov, [.t 17]⟩]))
def g367 : GL.Fn := ⟨.seq (.reg 0 [⟨0, some 4, none, .p .mov, [.c (.int .i64 0)]⟩])
   (.seq (.reg 0 [⟨0, some 6, none, .p .mov, [.t 1]⟩,
    ⟨1, some 7, none, .p .mov, [.t 0]⟩,
    ⟨2, some 8, none, .p .len, [.t 7]⟩,
    ⟨3, some 9, none, .p (.bin .sub), [.t 6, .t 8]⟩,
    ⟨4, some 1, none, .p .mov, [.t 9]⟩])
   (.seq (.seq (.reg 0 [⟨0, some 10, none, .p .mov, [.t 1]⟩,
    ⟨1, some 11, none, .p (.bin .lss), [.t 10, .c (.int .i64 0)]⟩])
   (.cond (.t 11) (.seq (.reg 0 [⟨0, some 4, none, .p .mov, [.c (.int .i64 (-1))]⟩])
   (.ret))
   (.skip)))
   (.seq (.seq (.reg 0 [⟨0, some 5, none, .p .mov, [.c (.int .i64 0)]⟩])
   (.block 0 (.loop g367_0)))
   (.seq (.reg 0 [⟨0, some 26, none, .p .mov, [.t 1]⟩,
    ⟨1, some 4, none, .p .mov, [.t 26]⟩])
   (.ret))))),
  [.tmp 4]⟩
/- loop.example/g00641/spec.l13Ok -/
def g515 : GL.Fn := ⟨.seq (.reg 0 [⟨0, some 2, none, .l (.box 2 3), [.t 0]⟩,
    ⟨1, some 4, none, .p .mov, [.c (.bool false)]⟩])
   (.seq (.reg 0 [⟨0, some 5, none, .l (.load 2 true 3), [.t 2]⟩,
    ⟨1, some 6, none, .e .call [] [], [.f 465, .t 5]⟩,
    ⟨2, some 7, none, .p .mov, [.t 6]⟩,
    ⟨3, some 8, some (7, true), .p .mov, [.t 1]⟩,
    ⟨4, some 9, some (7, true), .p (.faddr 1), [.t 2]⟩,
    ⟨5, some 10, some (7, true), .l (.load 2 false 1), [.t 9]⟩,
    ⟨6, some 11, some (7, true), .p .len, [.t 10]⟩,
    ⟨7, some 12, some (7, true), .p (.bin .sub), [.t 11, .c (.int .i64 1)]⟩,
    ⟨8, some 13, some (7, true), .e .call [] [], [.f 98, .t 8, .c (.int .i64 0), .t 12]⟩,
    ⟨9, some 14, none, .p .pick, [.t 7, .t 13, .c (.bool false)]⟩,
    ⟨10, some 4, none, .p .mov, [.t 14]⟩])
   (.ret)),
  [.tmp 4]⟩
/- loop.example/g00641/spec.l1In -/
def g98 : GL.Fn := ⟨.seq (.reg 0 [⟨0, some 6, none, .p .mov, [.c (.bool false)]⟩])
   (.seq (.reg 0 [⟨0, some 7, none, .p .mov, [.t 0]⟩,
    ⟨1, some 8, none, .p .mov, [.t 1]⟩,
    ⟨2, some 9, none, .p (.bin .geq), [.t 7, .t 8]⟩,
    ⟨3, some 10, none, .p .mov, [.t 9]⟩,
    ⟨4, some 11, some (10, true), .p .mov, [.t 0]⟩,
    ⟨5, some 12, some (10, true), .p .mov, [.t 2]⟩,
    ⟨6, some 13, some (10, true), .p (.bin .leq), [.t 11, .t 12]⟩,
    ⟨7, some 14, none, .p .pick, [.t 10, .t 13, .c (.bool false)]⟩,
    ⟨8, some 6, none, .p .mov, [.t 14]⟩])
   (.ret)),
  [.tmp 6]⟩
/- loop.example/g00641/spec.l13At -/
def g516_0 : GL.Code := .seq (.reg 0 [⟨0, some 17, none, .p (.bin .lss), [.t 16, .t 15]⟩])
   (.seq (.cond (.t 17) (.skip)
   (.exit 0))
   (.seq (.block 1 (.seq (.reg 0 [⟨0, some 18, none, .p (.idx 1), [.t 14, .t 16]⟩,
    ⟨1, some 19, none, .r (.load false 1) false, [.t 18]⟩,
    ⟨2, some 9, none, .p .mov, [.t 19]⟩])
   (.seq (.seq (.reg 0 [⟨0, some 20, none, .p .mov, [.t 9]⟩,
    ⟨1, some 21, none, .p .mov, [.t 2]⟩,
    ⟨2, some 22, none, .p (.bin .eql), [.t 20, .t 21]⟩])
   (.cond (.t 22) (.exit 0)
   (.skip)))
   (.seq (.reg 0 [⟨0, some 23, none, .p (.faddr 1), [.t 3]⟩,
    ⟨1, some 24, none, .l (.load 3 false 1), [.t 23]⟩,
    ⟨2, some 25, none, .p .mov, [.t 9]⟩,
    ⟨3, some 26, none, .p (.idx 2), [.t 24, .t 25]⟩,
    ⟨4, some 27, none, .r (.load true 2) false, [.t 26]⟩,
    ⟨5, some 28, none, .p (.faddr 1), [.t 3]⟩,
    ⟨6, some 29, none, .l (.load 3 false 1), [.t 28]⟩,
    ⟨7, some 30, none, .p .mov, [.t 2]⟩,
    ⟨8, some 31, none, .p (.idx 2), [.t 29, .t 30]⟩,
    ⟨9, some 32, none, .r (.load true 2) false, [.t 31]⟩,
    ⟨10, some 33, none, .e .call [] [], [.f 537, .t 27, .t 32]⟩])
   (.cond (.t 33) (.reg 0 [⟨0, some 34, none, .p .mov, [.t 7]⟩,
    ⟨1, some 35, none, .p .mov, [.t 9]⟩,
    ⟨2, some 36, none, .e .call [] [], [.f 410, .t 34, .t 35]⟩,
    ⟨3, some 7, none, .p .mov, [.t 36]⟩])
   (.skip))))))
   (.reg 0 [⟨0, some 37, none, .p (.bin .add), [.t 16, .c (.int .i64 1)]⟩,
    ⟨1, some 16, none, .p .mov, [.t 37]⟩])))
def g516 : GL.Fn := ⟨.seq (.reg 0 [⟨0, some 3, none, .l (.box 3 3), [.t 0]⟩,
    ⟨1, some 6, none, .p .mov, [.c (.nils)]⟩])
   (.seq (.reg 0 [⟨0, some 7, none, .p .mov, [.c (.nils)]⟩])
   (.seq (.seq (.reg 0 [⟨0, some 10, none, .p (.faddr 2), [.t 3]⟩,
    ⟨1, some 11, none, .l (.load 3 false 1), [.t 10]⟩,
    ⟨2, some 12, none, .p .mov, [.t 1]⟩,
    ⟨3, some 13, none, .p (.idx 1), [.t 11, .t 12]⟩,
    ⟨4, some 14, none, .r (.load false 1) false, [.t 13]⟩,
    ⟨5, some 15, none, .p .len, [.t 14]⟩,
    ⟨6, some 16, none, .p .mov, [.c (.int .i64 0)]⟩])
   (.block 0 (.loop g516_0)))
   (.seq (.reg 0 [⟨0, some 38, none, .p .mov, [.t 7]⟩,
    ⟨1, some 6, none, .p .mov, [.t 38]⟩])
   (.ret)))),
  [.tmp 6]⟩
/- loop.example/g00641/laws.toDeedS -/
def g517_0 : GL.Code := .seq (.seq (.reg 0 [⟨0, some 8, none, .p .mov, [.t 4]⟩,
    ⟨1, some 9, none, .p .mov, [.t 0]⟩,
    ⟨2, some 10, none, .p .len, [.t 9]⟩,
    ⟨3, some 11, none, .p (.bin .lss), [.t 8, .t 10]⟩])
   (.cond (.t 11) (.skip)
   (.exit 0)))
   (.seq (.block 1 (.reg 0 [⟨0, some 14, none, .p .mov, [.t 3]⟩,
    ⟨1, some 15, none, .p .mov, [.t 4]⟩,
    ⟨2, some 16, none, .p .mov, [.t 0]⟩,
    ⟨3, some 17, none, .p .mov, [.t 4]⟩,
    ⟨4, some 18, none, .p (.idx 2), [.t 16, .t 17]⟩,
    ⟨5, some 19, none, .r (.load true 2) false, [.t 18]⟩,
    ⟨6, some 20, none, .e .call [] [], [.f 564, .t 19]⟩,
    ⟨7, some 21, none, .p (.idx 2), [.t 14, .t 15]⟩,
    ⟨8, none, none, .e (.store 2) [] [], [.t 21, .t 20]⟩]))
   (.reg 0 [⟨0, some 12, none, .p .mov, [.t 4]⟩,
    ⟨1, some 13, none, .p (.bin .add), [.t 12, .c (.int .i64 1)]⟩,
    ⟨2, some 4, none, .p .mov, [.t 13]⟩]))
def g517 : GL.Fn := ⟨.seq (.reg 0 [⟨0, some 2, none, .p .mov, [.c (.nils)]⟩])
   (.seq (.reg 0 [⟨0, some 5, none, .p .mov, [.t 0]⟩,
    ⟨1, some 6, none, .p .len, [.t 5]⟩,
    ⟨2, some 7, none, .e (.new (.make 2 16 [.int .i64 0, .bool false])) [] [], [.t 6, .t 6]⟩,
    ⟨3, some 3, none, .p .mov, [.t 7]⟩])
   (.seq (.seq (.reg 0 [⟨0, some 4, none, .p .mov, [.c (.int .i64 0)]⟩])
   (.block 0 (.loop g517_0)))
   (.seq (.reg 0 [⟨0, some 22, none, .p .mov, [.t 3]⟩,
    ⟨1, some 2, none, .p .mov, [.t 22]⟩])
   (.ret)))),
  [.tmp 2]⟩
/- loop.example/g00641/laws.toIntSS -/
def g371_0 : GL.Code := .seq (.seq (.reg 0 [⟨0, some 8, none, .p .mov, [.t 4]⟩,
    ⟨1, some 9, none, .p .mov, [.t 0]⟩,
    ⟨2, some 10, none, .p .len, [.t 9]⟩,
    ⟨3, some 11, none, .p (.bin .lss), [.t 8, .t 10]⟩])
   (.cond (.t 11) (.skip)
   (.exit 0)))
   (.seq (.block 1 (.reg 0 [⟨0, some 14, none, .p .mov, [.t 3]⟩,
    ⟨1, some 15, none, .p .mov, [.t 4]⟩,
    ⟨2, some 16, none, .p .mov, [.t 0]⟩,
    ⟨3, some 17, none, .p .mov, [.t 4]⟩,
    ⟨4, some 18, none, .p (.idx 1), [.t 16, .t 17]⟩,
    ⟨5, some 19, none, .r (.load false 1) false, [.t 18]⟩,
    ⟨6, some 20, none, .e .call [] [], [.f 293, .t 19]⟩,
    ⟨7, some 21, none, .p (.idx 1), [.t 14, .t 15]⟩,
    ⟨8, none, none, .e (.store 1) [] [], [.t 21, .t 20]⟩]))
   (.reg 0 [⟨0, some 12, none, .p .mov, [.t 4]⟩,
    ⟨1, some 13, none, .p (.bin .add), [.t 12, .c (.int .i64 1)]⟩,
    ⟨2, some 4, none, .p .mov, [.t 13]⟩]))
def g371 : GL.Fn := ⟨.seq (.reg 0 [⟨0, some 2, none, .p .mov, [.c (.nils)]⟩])
   (.seq (.reg 0 [⟨0, some 5, none, .p .mov, [.t 0]⟩,
    ⟨1, some 6, none, .p .len, [.t 5]⟩,
    ⟨2, some 7, none, .e (.new (.make 1 24 [.nils])) [] [], [.t 6, .t 6]⟩,
    ⟨3, some 3, none, .p .mov, [.t 7]⟩])
   (.seq (.seq (.reg 0 [⟨0, some 4, none, .p .mov, [.c (.int .i64 0)]⟩])
   (.block 0 (.loop g371_0)))
   (.seq (.reg 0 [⟨0, some 22, none, .p .mov, [.t 3]⟩,
    ⟨1, some 2, none, .p .mov, [.t 22]⟩])
   (.ret)))),
  [.tmp 2]⟩
/- loop.example/g00641/impl.within -/
def g107 : GL.Fn := ⟨.seq (.reg 0 [⟨0, some 6, none, .p .mov, [.c (.bool false)]⟩])
   (.seq (.reg 0 [⟨0, some 7, none, .p .mov, [.t 0]⟩,
    ⟨1, some 8, none, .p .mov, [.t 1]⟩,
    ⟨2, some 9, none, .p (.bin .geq), [.t 7, .t 8]⟩,
    ⟨3, some 10, none, .p .mov, [.t 9]⟩,
    ⟨4, some 11, some (10, true), .p .mov, [.t 0]⟩,
    ⟨5, some 12, some (10, true), .p .mov, [.t 2]⟩,
    ⟨6, some 13, some (10, true), .p (.bin .leq), [.t 11, .t 12]⟩,
    ⟨7, some 14, none, .p .pick, [.t 10, .t 13, .c (.bool false)]⟩,
    ⟨8, some 6, none, .p .mov, [.t 14]⟩])
   (.ret)),
  [.tmp 6]⟩
/- (loop.example/g00641/impl.Heard).isOne -/
def g518 : GL.Fn := ⟨.seq (.reg 0 [⟨0, some 2, none, .l (.box 2 3), [.t 0]⟩,
    ⟨1, some 4, none, .p .mov, [.c (.bool false)]⟩])
   (.seq (.reg 0 [⟨0, some 5, none, .p .mov, [.t 1]⟩,
    ⟨1, some 6, none, .p (.faddr 1), [.t 2]⟩,
    ⟨2, some 7, none, .l (.load 2 false 1), [.t 6]⟩,
    ⟨3, some 8, none, .p .len, [.t 7]⟩,
    ⟨4, some 9, none, .p (.bin .sub), [.t 8, .c (.int .i64 1)]⟩,
    ⟨5, some 10, none, .e .call [] [], [.f 107, .t 5, .c (.int .i64 0), .t 9]⟩,
    ⟨6, some 4, none, .p .mov, [.t 10]⟩])
   (.ret)),
  [.tmp 4]⟩
/- (loop.example/g00641/impl.Heard).deps -/
def g519_0 : GL.Code := .seq (.reg 0 [⟨0, some 18, none, .p (.bin .lss), [.t 17, .t 16]⟩])
   (.seq (.cond (.t 18) (.skip)
   (.exit 0))
   (.seq (.block 1 (.seq (.reg 0 [⟨0, some 19, none, .p (.idx 1), [.t 15, .t 17]⟩,
    ⟨1, some 20, none, .r (.load false 1) false, [.t 19]⟩,
    ⟨2, some 9, none, .p .mov, [.t 20]⟩])
   (.seq (.seq (.reg 0 [⟨0, some 21, none, .p .mov, [.t 9]⟩,
    ⟨1, some 22, none, .p .mov, [.t 2]⟩,
    ⟨2, some 23, none, .p (.bin .eql), [.t 21, .t 22]⟩])
   (.cond (.t 23) (.exit 0)
   (.skip)))
   (.seq (.reg 0 [⟨0, some 24, none, .p (.faddr 1), [.t 3]⟩,
    ⟨1, some 25, none, .l (.load 3 false 1), [.t 24]⟩,
    ⟨2, some 26, none, .p .mov, [.t 9]⟩,
    ⟨3, some 27, none, .p (.idx 2), [.t 25, .t 26]⟩,
    ⟨4, some 28, none, .r (.load true 2) false, [.t 27]⟩,
    ⟨5, some 29, none, .p (.faddr 1), [.t 3]⟩,
    ⟨6, some 30, none, .l (.load 3 false 1), [.t 29]⟩,
    ⟨7, some 31, none, .p .mov, [.t 2]⟩,
    ⟨8, some 32, none, .p (.idx 2), [.t 30, .t 31]⟩,
    ⟨9, some 33, none, .r (.load true 2) false, [.t 32]⟩,
    ⟨10, some 34, none, .e .call [] [], [.f 535, .t 28, .t 33]⟩])
   (.cond (.t 34) (.reg 0 [⟨0, some 35, none, .p .mov, [.t 7]⟩,
    ⟨1, some 36, none, .p .mov, [.t 9]⟩,
    ⟨2, some 37, none, .e (.new (.lit 1)) [] [], [.t 36]⟩,
    ⟨3, some 38, none, .e (.append 1 8) [] [], [.t 35, .t 37]⟩,
    ⟨4, some 7, none, .p .mov, [.t 38]⟩])
   (.skip))))))
   (.reg 0 [⟨0, some 39, none, .p (.bin .add), [.t 17, .c (.int .i64 1)]⟩,
    ⟨1, some 17, none, .p .mov, [.t 39]⟩])))
def g519 : GL.Fn := ⟨.seq (.reg 0 [⟨0, some 3, none, .l (.box 3 3), [.t 0]⟩,
    ⟨1, some 6, none, .p .mov, [.c (.nils)]⟩])
   (.seq (.reg 0 [⟨0, some 10, none, .e (.new (.lit 1)) [] [], []⟩,
    ⟨1, some 7, none, .p .mov, [.t 10]⟩])
   (.seq (.seq (.reg 0 [⟨0, some 11, none, .p (.faddr 2), [.t 3]⟩,
    ⟨1, some 12, none, .l (.load 3 false 1), [.t 11]⟩,
    ⟨2, some 13, none, .p .mov, [.t 1]⟩,
    ⟨3, some 14, none, .p (.idx 1), [.t 12, .t 13]⟩,
    ⟨4, some 15, none, .r (.load false 1) false, [.t 14]⟩,
    ⟨5, some 16, none, .p .len, [.t 15]⟩,
    ⟨6, some 17, none, .p .mov, [.c (.int .i64 0)]⟩])
   (.block 0 (.loop g519_0)))
   (.seq (.reg 0 [⟨0, some 40, none, .p .mov, [.t 7]⟩,
    ⟨1, some 41, none, .e .call [] [], [.f 340, .t 40]⟩])
   (.seq (.reg 0 [⟨0, some 42, none, .p .mov, [.t 7]⟩,
    ⟨1, some 6, none, .p .mov, [.t 42]⟩])
   (.ret))))),
  [.tmp 6]⟩
/- loop.example/g00641/laws.eqDeedS -/
def g520_0 : GL.Code := .seq (.seq (.reg 0 [⟨0, some 11, none, .p .mov, [.t 5]⟩,
    ⟨1, some 12, none, .p .mov, [.t 0]⟩,
    ⟨2, some 13, none, .p .len, [.t 12]⟩,
    ⟨3, some 14, none, .p (.bin .lss), [.t 11, .t 13]⟩])
   (.cond (.t 14) (.skip)
   (.exit 0)))
   (.seq (.block 1 (.seq (.reg 0 [⟨0, some 17, none, .p .mov, [.t 0]⟩,
    ⟨1, some 18, none, .p .mov, [.t 5]⟩,
    ⟨2, some 19, none, .p (.idx 2), [.t 17, .t 18]⟩,
    ⟨3, some 20, none, .r (.load true 2) false, [.t 19]⟩,
    ⟨4, some 21, none, .p .mov, [.t 1]⟩,
    ⟨5, some 22, none, .p .mov, [.t 5]⟩,
    ⟨6, some 23, none, .p (.idx 2), [.t 21, .t 22]⟩,
    ⟨7, some 24, none, .r (.load true 2) false, [.t 23]⟩,
    ⟨8, some 25, none, .e .call [] [], [.f 565, .t 20, .t 24]⟩,
    ⟨9, some 26, none, .p (.un .not), [.t 25]⟩])
   (.cond (.t 26) (.seq (.reg 0 [⟨0, some 4, none, .p .mov, [.c (.bool false)]⟩])
   (.ret))
   (.skip))))
   (.reg 0 [⟨0, some 15, none, .p .mov, [.t 5]⟩,
    ⟨1, some 16, none, .p (.bin .add), [.t 15, .c (.int .i64 1)]⟩,
    ⟨2, some 5, none, .p .mov, [.t 16]⟩]))
def g520 : GL.Fn := ⟨.seq (.reg 0 [⟨0, some 4, none, .p .mov, [.c (.bool false)]⟩])
   (.seq (.seq (.reg 0 [⟨0, some 6, none, .p .mov, [.t 0]⟩,
    ⟨1, some 7, none, .p .len, [.t 6]⟩,
    ⟨2, some 8, none, .p .mov, [.t 1]⟩,
    ⟨3, some 9, none, .p .len, [.t 8]⟩,
    ⟨4, some 10, none, .p (.bin .neq), [.t 7, .t 9]⟩])
   (.cond (.t 10) (.seq (.reg 0 [⟨0, some 4, none, .p .mov, [.c (.bool false)]⟩])
   (.ret))
   (.skip)))
   (.seq (.seq (.reg 0 [⟨0, some 5, none, .p .mov, [.c (.int .i64 0)]⟩])
   (.block 0 (.loop g520_0)))
   (.seq (.reg 0 [⟨0, some 4, none, .p .mov, [.c (.bool true)]⟩])
   (.ret)))),
  [.tmp 4]⟩
/- loop.example/g00641/spec.l13Group -/
def g522 : GL.Fn := ⟨.seq (.reg 0 [⟨0, some 2, none, .l (.box 2 3), [.t 0]⟩,
    ⟨1, some 4, none, .p .mov, [.c (.bool false)]⟩])
   (.seq (.reg 0 [⟨0, some 5, none, .p .mov, [.t 1]⟩,
    ⟨1, some 6, none, .p (.faddr 0), [.t 2]⟩,
    ⟨2, some 7, none, .l (.load 2 false 1), [.t 6]⟩,
    ⟨3, some 8, none, .p (.bin .sub), [.t 7, .c (.int .i64 1)]⟩,
    ⟨4, some 9, none, .e .call [] [], [.f 337, .t 5, .c (.int .i64 0), .t 8]⟩,
    ⟨5, some 10, none, .p .mov, [.t 9]⟩,
    ⟨6, some 11, some (10, true), .p .mov, [.t 1]⟩,
    ⟨7, some 12, some (10, true), .p .len, [.t 11]⟩,
    ⟨8, some 13, some (10, true), .p (.faddr 0), [.t 2]⟩,
    ⟨9, some 14, some (10, true), .l (.load 2 false 1), [.t 13]⟩,
    ⟨10, some 15, some (10, true), .e .call [] [], [.f 333, .t 14]⟩,
    ⟨11, some 16, some (10, true), .p (.bin .geq), [.t 12, .t 15]⟩,
    ⟨12, some 17, none, .p .pick, [.t 10, .t 16, .c (.bool false)]⟩,
    ⟨13, some 4, none, .p .mov, [.t 17]⟩])
   (.ret)),
  [.tmp 4]⟩
/- loop.example/g00641/spec.l11Fast -/
def g341 : GL.Fn := ⟨.seq (.reg 0 [⟨0, some 2, none, .p .mov, [.c (.int .i64 0)]⟩])
   (.seq (.reg 0 [⟨0, some 3, none, .p .mov, [.t 0]⟩,
    ⟨1, some 4, none, .p .mov, [.t 0]⟩,
    ⟨2, some 5, none, .p (.bin .sub), [.t 4, .c (.int .i64 1)]⟩,
    ⟨3, some 6, none, .p (.bin .quo), [.t 5, .c (.int .i64 4)]⟩,
    ⟨4, some 7, none, .p (.bin .sub), [.t 3, .t 6]⟩,
    ⟨5, some 2, none, .p .mov, [.t 7]⟩])
   (.ret)),
  [.tmp 2]⟩
/- loop.example/g00641/spec.l1Same -/
def g356_0 : GL.Code := .seq (.reg 0 [⟨0, some 14, none, .p (.bin .lss), [.t 13, .t 12]⟩])
   (.seq (.cond (.t 14) (.skip)
   (.exit 0))
   (.seq (.block 1 (.seq (.reg 0 [⟨0, some 15, none, .p .mov, [.t 13]⟩,
    ⟨1, some 5, none, .p .mov, [.t 15]⟩])
   (.seq (.reg 0 [⟨0, some 16, none, .p .mov, [.t 0]⟩,
    ⟨1, some 17, none, .p .mov, [.t 5]⟩,
    ⟨2, some 18, none, .p (.idx 1), [.t 16, .t 17]⟩,
    ⟨3, some 19, none, .r (.load false 1) false, [.t 18]⟩,
    ⟨4, some 20, none, .p .mov, [.t 1]⟩,
    ⟨5, some 21, none, .p .mov, [.t 5]⟩,
    ⟨6, some 22, none, .p (.idx 1), [.t 20, .t 21]⟩,
    ⟨7, some 23, none, .r (.load false 1) false, [.t 22]⟩,
    ⟨8, some 24, none, .p (.bin .neq), [.t 19, .t 23]⟩])
   (.cond (.t 24) (.seq (.reg 0 [⟨0, some 4, none, .p .mov, [.c (.bool false)]⟩])
   (.ret))
   (.skip)))))
   (.reg 0 [⟨0, some 25, none, .p (.bin .add), [.t 13, .c (.int .i64 1)]⟩,
    ⟨1, some 13, none, .p .mov, [.t 25]⟩])))
def g356 : GL.Fn := ⟨.seq (.reg 0 [⟨0, some 4, none, .p .mov, [.c (.bool false)]⟩])
   (.seq (.seq (.reg 0 [⟨0, some 6, none, .p .mov, [.t 0]⟩,
    ⟨1, some 7, none, .p .len, [.t 6]⟩,
    ⟨2, some 8, none, .p .mov, [.t 1]⟩,
    ⟨3, some 9, none, .p .len, [.t 8]⟩,
    ⟨4, some 10, none, .p (.bin .neq), [.t 7, .t 9]⟩])
   (.cond (.t 10) (.seq (.reg 0 [⟨0, some 4, none, .p .mov, [.c (.bool false)]⟩])
   (.ret))
   (.skip)))
   (.seq (.seq (.reg 0 [⟨0, some 11, none, .p .mov, [.t 0]⟩,
    ⟨1, some 12, none, .p .len, [.t 11]⟩,
    ⟨2, some 13, none, .p .mov, [.c (.int .i64 0)]⟩])
   (.block 0 (.loop g356_0)))
   (.seq (.reg 0 [⟨0, some 4, none, .p .mov, [.c (.bool true)]⟩])
   (.ret)))),
  [.tmp 4]⟩
/- loop.example/g00641/impl.arePlaces -/
def g314 : GL.Fn := ⟨.seq (.reg 0 [⟨0, some 4, none, .p .mov, [.c (.bool false)]⟩])
   (.seq (.reg 0 [⟨0, some 5, none, .p .mov, [.t 0]⟩,
    ⟨1, some 6, none, .e .call [] [], [.f 318, .t 5]⟩,
    ⟨2, some 7, none, .p .mov, [.t 6]⟩,
    ⟨3, some 8, some (7, true), .p .mov, [.t 1]⟩,
    ⟨4, some 9, some (7, true), .p .mov, [.t 0]⟩,
    ⟨5, some 10, some (7, true), .p (.bin .sub), [.t 9, .c (.int .i64 1)]⟩,
    ⟨6, some 11, some (7, true), .e .call [] [], [.f 385, .t 8, .c (.int .i64 0), .t 10]⟩,
    ⟨7, some 12, none, .p .pick, [.t 7, .t 11, .c (.bool false)]⟩,
    ⟨8, some 4, none, .p .mov, [.t 12]⟩])
   (.ret)),
  [.tmp 4]⟩
/- loop.example/g00641/impl.fast -/
def g339 : GL.Fn := ⟨.seq (.reg 0 [⟨0, some 2, none, .p .mov, [.c (.int .i64 0)]⟩])
   (.seq (.reg 0 [⟨0, some 3, none, .p .mov, [.t 0]⟩,
    ⟨1, some 4, none, .p .mov, [.t 0]⟩,
    ⟨2, some 5, none, .p (.bin .sub), [.t 4, .c (.int .i64 1)]⟩,
    ⟨3, some 6, none, .p (.bin .quo), [.t 5, .c (.int .i64 4)]⟩,
    ⟨4, some 7, none, .p (.bin .sub), [.t 3, .t 6]⟩,
    ⟨5, some 2, none, .p .mov, [.t 7]⟩])
   (.ret)),
  [.tmp 2]⟩
/- (loop.example/g00641/impl.Heard).areAlike -/
def g523 : GL.Fn := ⟨.seq (.reg 0 [⟨0, some 3, none, .e (.new (.box 3)) [] [], [.t 0]⟩,
    ⟨1, some 4, none, .e (.new (.box 1)) [] [], [.t 1]⟩,
    ⟨2, some 5, none, .e (.new (.box 1)) [] [], [.t 2]⟩,
    ⟨3, some 6, none, .p .mov, [.c (.bool false)]⟩])
   (.seq (.reg 0 [⟨0, some 7, none, .r (.load false 1) false, [.t 5]⟩,
    ⟨1, some 8, none, .p (.mkFn 566), [.t 3, .t 4, .t 5]⟩,
    ⟨2, some 9, none, .e .call [] [], [.f 304, .t 7, .t 8]⟩,
    ⟨3, some 10, none, .p (.un .not), [.t 9]⟩,
    ⟨4, some 6, none, .p .mov, [.t 10]⟩])
   (.ret)),
  [.tmp 6]⟩
/- loop.example/g00641/impl.isMany -/
def g318 : GL.Fn := ⟨.seq (.reg 0 [⟨0, some 2, none, .p .mov, [.c (.bool false)]⟩])
   (.seq (.reg 0 [⟨0, some 3, none, .p .mov, [.t 0]⟩,
    ⟨1, some 4, none, .e .call [] [], [.f 107, .t 3, .c (.int .i64 3), .c (.int .i64 9)]⟩,
    ⟨2, some 5, none, .p .mov, [.t 4]⟩,
    ⟨3, some 6, some (5, true), .p .mov, [.t 0]⟩,
    ⟨4, some 7, some (5, true), .p (.bin .rem), [.t 6, .c (.int .i64 2)]⟩,
    ⟨5, some 8, some (5, true), .p (.bin .eql), [.t 7, .c (.int .i64 1)]⟩,
    ⟨6, some 9, none, .p .pick, [.t 5, .t 8, .c (.bool false)]⟩,
    ⟨7, some 2, none, .p .mov, [.t 9]⟩])
   (.ret)),
  [.tmp 2]⟩
/- slices.ContainsFunc[[]loop.example/g00641/impl.Deed,loop.example/g00641/impl.Deed] -/
def g530 : GL.Fn := ⟨.seq (.reg 0 [⟨0, some 4, none, .p .mov, [.c (.bool false)]⟩])
   (.seq (.reg 0 [⟨0, some 5, none, .p .mov, [.t 0]⟩,
    ⟨1, some 6, none, .p .mov, [.t 1]⟩,
    ⟨2, some 7, none, .e .call [] [], [.f 569, .t 5, .t 6]⟩,
    ⟨3, some 8, none, .p (.bin .geq), [.t 7, .c (.int .i64 0)]⟩,
    ⟨4, some 4, none, .p .mov, [.t 8]⟩])
   (.ret)),
  [.tmp 4]⟩
/- loop.example/g00641/impl.GoodHeard$1 -/
def g531 : GL.Fn := ⟨.seq (.reg 0 [⟨0, some 1, none, .l (.box 1 2), [.t 0]⟩,
    ⟨1, some 2, none, .p .mov, [.c (.bool false)]⟩])
   (.seq (.reg 0 [⟨0, some 3, none, .l (.load 1 true 2), [.t 1]⟩,
    ⟨1, some 4, none, .e .call [] [], [.f 538, .t 3]⟩,
    ⟨2, some 5, none, .p (.un .not), [.t 4]⟩,
    ⟨3, some 2, none, .p .mov, [.t 5]⟩])
   (.ret)),
  [.tmp 2]⟩
/- loop.example/g00641/impl.isDeed -/
def g538 : GL.Fn := ⟨.seq (.reg 0 [⟨0, some 1, none, .l (.box 1 2), [.t 0]⟩,
    ⟨1, some 2, none, .p .mov, [.c (.bool false)]⟩])
   (.seq (.reg 0 [⟨0, some 3, none, .p (.faddr 0), [.t 1]⟩,
    ⟨1, some 4, none, .l (.load 1 false 1), [.t 3]⟩,
    ⟨2, some 5, none, .e .call [] [], [.f 107, .t 4, .c (.int .i64 0), .c (.int .i64 9)]⟩,
    ⟨3, some 2, none, .p .mov, [.t 5]⟩])
   (.ret)),
  [.tmp 2]⟩
/- slices.ContainsFunc[[][]int,[]int] -/
def g335 : GL.Fn := ⟨.seq (.reg 0 [⟨0, some 4, none, .p .mov, [.c (.bool false)]⟩])
   (.seq (.reg 0 [⟨0, some 5, none, .p .mov, [.t 0]⟩,
    ⟨1, some 6, none, .p .mov, [.t 1]⟩,
    ⟨2, some 7, none, .e .call [] [], [.f 395, .t 5, .t 6]⟩,
    ⟨3, some 8, none, .p (.bin .geq), [.t 7, .c (.int .i64 0)]⟩,
    ⟨4, some 4, none, .p .mov, [.t 8]⟩])
   (.ret)),
  [.tmp 4]⟩
/- loop.example/g00641/impl.GoodHeard$2 -/
def g532 : GL.Fn := ⟨.seq (.reg 0 [⟨0, some 3, none, .p .mov, [.c (.bool false)]⟩])
   (.seq (.reg 0 [⟨0, some 4, none, .p .mov, [.t 0]⟩,
    ⟨1, some 5, none, .p .len, [.t 4]⟩,
    ⟨2, some 6, none, .r (.load false 1) false, [.t 1]⟩,
    ⟨3, some 7, none, .p (.bin .neq), [.t 5, .t 6]⟩,
    ⟨4, some 8, none, .p .mov, [.t 7]⟩,
    ⟨5, some 9, some (8, false), .p .mov, [.t 0]⟩,
    ⟨6, some 10, some (8, false), .r (.load false 1) false, [.t 1]⟩,
    ⟨7, some 11, some (8, false), .e .call [] [], [.f 541, .t 9, .t 10]⟩,
    ⟨8, some 12, some (8, false), .p (.un .not), [.t 11]⟩,
    ⟨9, some 13, none, .p .pick, [.t 8, .c (.bool true), .t 12]⟩,
    ⟨10, some 3, none, .p .mov, [.t 13]⟩])
   (.ret)),
  [.tmp 3]⟩
/- loop.example/g00641/impl.areOnce -/
def g541 : GL.Fn := ⟨.seq (.reg 0 [⟨0, some 4, none, .p .mov, [.c (.bool false)]⟩])
   (.seq (.reg 0 [⟨0, some 5, none, .p .mov, [.t 0]⟩,
    ⟨1, some 6, none, .e .call [] [], [.f 406, .t 5]⟩,
    ⟨2, some 7, none, .e .call [] [], [.f 407, .t 6]⟩,
    ⟨3, some 8, none, .p .mov, [.t 1]⟩,
    ⟨4, some 9, none, .p (.bin .sub), [.t 8, .c (.int .i64 1)]⟩,
    ⟨5, some 10, none, .e .call [] [], [.f 385, .t 7, .c (.int .i64 0), .t 9]⟩,
    ⟨6, some 4, none, .p .mov, [.t 10]⟩])
   (.ret)),
  [.tmp 4]⟩
/- loop.example/g00641/spec.l11Places -/
def g321 : GL.Fn := ⟨.seq (.reg 0 [⟨0, some 2, none, .p .mov, [.c (.bool false)]⟩])
   (.seq (.reg 0 [⟨0, some 3, none, .p .mov, [.t 0]⟩,
    ⟨1, some 4, none, .e .call [] [], [.f 98, .t 3, .c (.int .i64 3), .c (.int .i64 9)]⟩,
    ⟨2, some 5, none, .p .mov, [.t 4]⟩,
    ⟨3, some 6, some (5, true), .p .mov, [.t 0]⟩,
    ⟨4, some 7, some (5, true), .p (.bin .rem), [.t 6, .c (.int .i64 2)]⟩,
    ⟨5, some 8, some (5, true), .p (.bin .eql), [.t 7, .c (.int .i64 1)]⟩,
    ⟨6, some 9, none, .p .pick, [.t 5, .t 8, .c (.bool false)]⟩,
    ⟨7, some 2, none, .p .mov, [.t 9]⟩])
   (.ret)),
  [.tmp 2]⟩
/- loop.example/g00641/spec.l13Deed -/
def g533 : GL.Fn := ⟨.seq (.reg 0 [⟨0, some 1, none, .l (.box 1 2), [.t 0]⟩,
    ⟨1, some 2, none, .p .mov, [.c (.bool false)]⟩])
   (.seq (.reg 0 [⟨0, some 3, none, .p (.faddr 0), [.t 1]⟩,
    ⟨1, some 4, none, .l (.load 1 false 1), [.t 3]⟩,
    ⟨2, some 5, none, .e .call [] [], [.f 98, .t 4, .c (.int .i64 0), .c (.int .i64 9)]⟩,
    ⟨3, some 2, none, .p .mov, [.t 5]⟩])
   (.ret)),
  [.tmp 2]⟩
/- loop.example/g00641/spec.l1All -/
def g94_0 : GL.Code := .seq (.reg 0 [⟨0, some 12, none, .p (.bin .lss), [.t 11, .t 10]⟩])
   (.seq (.cond (.t 12) (.skip)
   (.exit 0))
   (.seq (.block 1 (.seq (.reg 0 [⟨0, some 13, none, .p (.idx 1), [.t 9, .t 11]⟩,
    ⟨1, some 14, none, .r (.load false 1) false, [.t 13]⟩,
    ⟨2, some 8, none, .p .mov, [.t 14]⟩])
   (.seq (.reg 0 [⟨0, some 15, none, .p .mov, [.t 8]⟩,
    ⟨1, some 16, none, .p .mov, [.t 1]⟩,
    ⟨2, some 17, none, .p .mov, [.t 2]⟩,
    ⟨3, some 18, none, .e .call [] [], [.f 98, .t 15, .t 16, .t 17]⟩,
    ⟨4, some 19, none, .p (.un .not), [.t 18]⟩])
   (.cond (.t 19) (.seq (.reg 0 [⟨0, some 6, none, .p .mov, [.c (.bool false)]⟩])
   (.ret))
   (.skip)))))
   (.reg 0 [⟨0, some 20, none, .p (.bin .add), [.t 11, .c (.int .i64 1)]⟩,
    ⟨1, some 11, none, .p .mov, [.t 20]⟩])))
def g94 : GL.Fn := ⟨.seq (.reg 0 [⟨0, some 6, none, .p .mov, [.c (.bool false)]⟩])
   (.seq (.seq (.reg 0 [⟨0, some 9, none, .p .mov, [.t 0]⟩,
    ⟨1, some 10, none, .p .len, [.t 9]⟩,
    ⟨2, some 11, none, .p .mov, [.c (.int .i64 0)]⟩])
   (.block 0 (.loop g94_0)))
   (.seq (.reg 0 [⟨0, some 6, none, .p .mov, [.c (.bool true)]⟩])
   (.ret))),
  [.tmp 6]⟩
/- loop.example/g00641/spec.l1Has -/
def g302_0 : GL.Code := .seq (.reg 0 [⟨0, some 10, none, .p (.bin .lss), [.t 9, .t 8]⟩])
   (.seq (.cond (.t 10) (.skip)
   (.exit 0))
   (.seq (.block 1 (.seq (.reg 0 [⟨0, some 11, none, .p (.idx 1), [.t 7, .t 9]⟩,
    ⟨1, some 12, none, .r (.load false 1) false, [.t 11]⟩,
    ⟨2, some 6, none, .p .mov, [.t 12]⟩])
   (.seq (.reg 0 [⟨0, some 13, none, .p .mov, [.t 6]⟩,
    ⟨1, some 14, none, .p .mov, [.t 1]⟩,
    ⟨2, some 15, none, .p (.bin .eql), [.t 13, .t 14]⟩])
   (.cond (.t 15) (.seq (.reg 0 [⟨0, some 4, none, .p .mov, [.c (.bool true)]⟩])
   (.ret))
   (.skip)))))
   (.reg 0 [⟨0, some 16, none, .p (.bin .add), [.t 9, .c (.int .i64 1)]⟩,
    ⟨1, some 9, none, .p .mov, [.t 16]⟩])))
def g302 : GL.Fn := ⟨.seq (.reg 0 [⟨0, some 4, none, .p .mov, [.c (.bool false)]⟩])
   (.seq (.seq (.reg 0 [⟨0, some 7, none, .p .mov, [.t 0]⟩,
    ⟨1, some 8, none, .p .len, [.t 7]⟩,
    ⟨2, some 9, none, .p .mov, [.c (.int .i64 0)]⟩])
   (.block 0 (.loop g302_0)))
   (.seq (.reg 0 [⟨0, some 4, none, .p .mov, [.c (.bool false)]⟩])
   (.ret))),
  [.tmp 4]⟩
/- loop.example/g00641/impl.isRising -/
def g385_0 : GL.Code := .seq (.reg 0 [⟨0, some 12, none, .p (.bin .lss), [.t 11, .t 10]⟩])
   (.seq (.cond (.t 12) (.skip)
   (.exit 0))
   (.seq (.block 1 (.seq (.reg 0 [⟨0, some 13, none, .p .mov, [.t 11]⟩,
    ⟨1, some 14, none, .p (.idx 1), [.t 9, .t 11]⟩,
    ⟨2, some 15, none, .r (.load false 1) false, [.t 14]⟩,
    ⟨3, some 7, none, .p .mov, [.t 13]⟩,
    ⟨4, some 8, none, .p .mov, [.t 15]⟩])
   (.seq (.reg 0 [⟨0, some 16, none, .p .mov, [.t 8]⟩,
    ⟨1, some 17, none, .p .mov, [.t 1]⟩,
    ⟨2, some 18, none, .p .mov, [.t 2]⟩,
    ⟨3, some 19, none, .e .call [] [], [.f 107, .t 16, .t 17, .t 18]⟩,
    ⟨4, some 20, none, .p (.un .not), [.t 19]⟩,
    ⟨5, some 21, none, .p .mov, [.t 20]⟩,
    ⟨6, some 22, some (21, false), .p .mov, [.t 7]⟩,
    ⟨7, some 23, some (21, false), .p (.bin .gtr), [.t 22, .c (.int .i64 0)]⟩,
    ⟨8, some 24, some (21, false), .p .mov, [.t 23]⟩,
    ⟨9, some 25, some (24, true), .p .mov, [.t 0]⟩,
    ⟨10, some 26, some (24, true), .p .mov, [.t 7]⟩,
    ⟨11, some 27, some (24, true), .p (.bin .sub), [.t 26, .c (.int .i64 1)]⟩,
    ⟨12, some 28, some (24, true), .p (.idx 1), [.t 25, .t 27]⟩,
    ⟨13, some 29, some (24, true), .r (.load false 1) false, [.t 28]⟩,
    ⟨14, some 30, some (24, true), .p .mov, [.t 8]⟩,
    ⟨15, some 31, some (24, true), .p (.bin .geq), [.t 29, .t 30]⟩,
    ⟨16, some 32, some (21, false), .p .pick, [.t 24, .t 31, .c (.bool false)]⟩,
    ⟨17, some 33, none, .p .pick, [.t 21, .c (.bool true), .t 32]⟩])
   (.cond (.t 33) (.seq (.reg 0 [⟨0, some 6, none, .p .mov, [.c (.bool false)]⟩])
   (.ret))
   (.skip)))))
   (.reg 0 [⟨0, some 34, none, .p (.bin .add), [.t 11, .c (.int .i64 1)]⟩,
    ⟨1, some 11, none, .p .mov, [.t 34]⟩])))
def g385 : GL.Fn := ⟨.seq (.reg 0 [⟨0, some 6, none, .p .mov, [.c (.bool false)]⟩])
   (.seq (.seq (.reg 0 [⟨0, some 9, none, .p .mov, [.t 0]⟩,
    ⟨1, some 10, none, .p .len, [.t 9]⟩,
    ⟨2, some 11, none, .p .mov, [.c (.int .i64 0)]⟩])
   (.block 0 (.loop g385_0)))
   (.seq (.reg 0 [⟨0, some 6, none, .p .mov, [.c (.bool true)]⟩])
   (.ret))),
  [.tmp 6]⟩
/- loop.example/g00641/impl.clashing -/
def g535 : GL.Fn := ⟨.seq (.reg 0 [⟨0, some 2, none, .l (.box 2 2), [.t 0]⟩,
    ⟨1, some 3, none, .l (.box 3 2), [.t 1]⟩,
    ⟨2, some 4, none, .p .mov, [.c (.bool false)]⟩])
   (.seq (.reg 0 [⟨0, some 5, none, .p (.faddr 0), [.t 2]⟩,
    ⟨1, some 6, none, .l (.load 2 false 1), [.t 5]⟩,
    ⟨2, some 7, none, .p (.faddr 0), [.t 3]⟩,
    ⟨3, some 8, none, .l (.load 3 false 1), [.t 7]⟩,
    ⟨4, some 9, none, .p (.bin .eql), [.t 6, .t 8]⟩,
    ⟨5, some 10, none, .p .mov, [.t 9]⟩,
    ⟨6, some 11, some (10, true), .p (.faddr 1), [.t 2]⟩,
    ⟨7, some 12, some (10, true), .l (.load 2 false 1), [.t 11]⟩,
    ⟨8, some 13, some (10, true), .p .mov, [.t 12]⟩,
    ⟨9, some 14, some (13, false), .p (.faddr 1), [.t 3]⟩,
    ⟨10, some 15, some (13, false), .l (.load 3 false 1), [.t 14]⟩,
    ⟨11, some 16, some (10, true), .p .pick, [.t 13, .c (.bool true), .t 15]⟩,
    ⟨12, some 17, none, .p .pick, [.t 10, .t 16, .c (.bool false)]⟩,
    ⟨13, some 4, none, .p .mov, [.t 17]⟩])
   (.ret)),
  [.tmp 4]⟩
/- loop.example/g00641/spec.l13Clash -/
def g537 : GL.Fn := ⟨.seq (.reg 0 [⟨0, some 2, none, .l (.box 2 2), [.t 0]⟩,
    ⟨1, some 3, none, .l (.box 3 2), [.t 1]⟩,
    ⟨2, some 4, none, .p .mov, [.c (.bool false)]⟩])
   (.seq (.reg 0 [⟨0, some 5, none, .p (.faddr 0), [.t 2]⟩,
    ⟨1, some 6, none, .l (.load 2 false 1), [.t 5]⟩,
    ⟨2, some 7, none, .p (.faddr 0), [.t 3]⟩,
    ⟨3, some 8, none, .l (.load 3 false 1), [.t 7]⟩,
    ⟨4, some 9, none, .p (.bin .eql), [.t 6, .t 8]⟩,
    ⟨5, some 10, none, .p .mov, [.t 9]⟩,
    ⟨6, some 11, some (10, true), .p (.faddr 1), [.t 2]⟩,
    ⟨7, some 12, some (10, true), .l (.load 2 false 1), [.t 11]⟩,
    ⟨8, some 13, some (10, true), .p .mov, [.t 12]⟩,
    ⟨9, some 14, some (13, false), .p (.faddr 1), [.t 3]⟩,
    ⟨10, some 15, some (13, false), .l (.load 3 false 1), [.t 14]⟩,
    ⟨11, some 16, some (10, true), .p .pick, [.t 13, .c (.bool true), .t 15]⟩,
    ⟨12, some 17, none, .p .pick, [.t 10, .t 16, .c (.bool false)]⟩,
    ⟨13, some 4, none, .p .mov, [.t 17]⟩])
   (.ret)),
  [.tmp 4]⟩
/- loop.example/g00641/spec.l1Rising -/
def g337_0 : GL.Code := .seq (.reg 0 [⟨0, some 12, none, .p (.bin .lss), [.t 11, .t 10]⟩])
   (.seq (.cond (.t 12) (.skip)
   (.exit 0))
   (.seq (.block 1 (.seq (.reg 0 [⟨0, some 13, none, .p .mov, [.t 11]⟩,
    ⟨1, some 14, none, .p (.idx 1), [.t 9, .t 11]⟩,
    ⟨2, some 15, none, .r (.load false 1) false, [.t 14]⟩,
    ⟨3, some 7, none, .p .mov, [.t 13]⟩,
    ⟨4, some 8, none, .p .mov, [.t 15]⟩])
   (.seq (.reg 0 [⟨0, some 16, none, .p .mov, [.t 8]⟩,
    ⟨1, some 17, none, .p .mov, [.t 1]⟩,
    ⟨2, some 18, none, .p .mov, [.t 2]⟩,
    ⟨3, some 19, none, .e .call [] [], [.f 98, .t 16, .t 17, .t 18]⟩,
    ⟨4, some 20, none, .p (.un .not), [.t 19]⟩,
    ⟨5, some 21, none, .p .mov, [.t 20]⟩,
    ⟨6, some 22, some (21, false), .p .mov, [.t 7]⟩,
    ⟨7, some 23, some (21, false), .p (.bin .gtr), [.t 22, .c (.int .i64 0)]⟩,
    ⟨8, some 24, some (21, false), .p .mov, [.t 23]⟩,
    ⟨9, some 25, some (24, true), .p .mov, [.t 0]⟩,
    ⟨10, some 26, some (24, true), .p .mov, [.t 7]⟩,
    ⟨11, some 27, some (24, true), .p (.bin .sub), [.t 26, .c (.int .i64 1)]⟩,
    ⟨12, some 28, some (24, true), .p (.idx 1), [.t 25, .t 27]⟩,
    ⟨13, some 29, some (24, true), .r (.load false 1) false, [.t 28]⟩,
    ⟨14, some 30, some (24, true), .p .mov, [.t 8]⟩,
    ⟨15, some 31, some (24, true), .p (.bin .geq), [.t 29, .t 30]⟩,
    ⟨16, some 32, some (21, false), .p .pick, [.t 24, .t 31, .c (.bool false)]⟩,
    ⟨17, some 33, none, .p .pick, [.t 21, .c (.bool true), .t 32]⟩])
   (.cond (.t 33) (.seq (.reg 0 [⟨0, some 6, none, .p .mov, [.c (.bool false)]⟩])
   (.ret))
   (.skip)))))
   (.reg 0 [⟨0, some 34, none, .p (.bin .add), [.t 11, .c (.int .i64 1)]⟩,
    ⟨1, some 11, none, .p .mov, [.t 34]⟩])))
def g337 : GL.Fn := ⟨.seq (.reg 0 [⟨0, some 6, none, .p .mov, [.c (.bool false)]⟩])
   (.seq (.seq (.reg 0 [⟨0, some 9, none, .p .mov, [.t 0]⟩,
    ⟨1, some 10, none, .p .len, [.t 9]⟩,
    ⟨2, some 11, none, .p .mov, [.c (.int .i64 0)]⟩])
   (.block 0 (.loop g337_0)))
   (.seq (.reg 0 [⟨0, some 6, none, .p .mov, [.c (.bool true)]⟩])
   (.ret))),
  [.tmp 6]⟩
/- slices.ContainsFunc[[]int,int] -/
def g304 : GL.Fn := ⟨.seq (.reg 0 [⟨0, some 4, none, .p .mov, [.c (.bool false)]⟩])
   (.seq (.reg 0 [⟨0, some 5, none, .p .mov, [.t 0]⟩,
    ⟨1, some 6, none, .p .mov, [.t 1]⟩,
    ⟨2, some 7, none, .e .call [] [], [.f 391, .t 5, .t 6]⟩,
    ⟨3, some 8, none, .p (.bin .geq), [.t 7, .c (.int .i64 0)]⟩,
    ⟨4, some 4, none, .p .mov, [.t 8]⟩])
   (.ret)),
  [.tmp 4]⟩
/- loop.example/g00641/spec.l1Put -/
def g410_0 : GL.Code := .seq (.seq (.reg 0 [⟨0, some 7, none, .p .mov, [.t 5]⟩,
    ⟨1, some 8, none, .p .mov, [.t 0]⟩,
    ⟨2, some 9, none, .p .len, [.t 8]⟩,
    ⟨3, some 10, none, .p (.bin .lss), [.t 7, .t 9]⟩,
    ⟨4, some 11, none, .p .mov, [.t 10]⟩,
    ⟨5, some 12, some (11, true), .p .mov, [.t 0]⟩,
    ⟨6, some 13, some (11, true), .p .mov, [.t 5]⟩,
    ⟨7, some 14, some (11, true), .p (.idx 1), [.t 12, .t 13]⟩,
    ⟨8, some 15, some (11, true), .r (.load false 1) false, [.t 14]⟩,
    ⟨9, some 16, some (11, true), .p .mov, [.t 1]⟩,
    ⟨10, some 17, some (11, true), .p (.bin .lss), [.t 15, .t 16]⟩,
    ⟨11, some 18, none, .p .pick, [.t 11, .t 17, .c (.bool false)]⟩])
   (.cond (.t 18) (.skip)
   (.exit 0)))
   (.block 1 (.reg 0 [⟨0, some 19, none, .p .mov, [.t 5]⟩,
    ⟨1, some 20, none, .p (.bin .add), [.t 19, .c (.int .i64 1)]⟩,
    ⟨2, some 5, none, .p .mov, [.t 20]⟩]))
def g410 : GL.Fn := ⟨.seq (.reg 0 [⟨0, some 4, none, .p .mov, [.c (.nils)]⟩])
   (.seq (.reg 0 [⟨0, some 5, none, .p .mov, [.c (.int .i64 0)]⟩])
   (.seq (.block 0 (.loop g410_0))
   (.seq (.seq (.reg 0 [⟨0, some 21, none, .p .mov, [.t 5]⟩,
    ⟨1, some 22, none, .p .mov, [.t 0]⟩,
    ⟨2, some 23, none, .p .len, [.t 22]⟩,
    ⟨3, some 24, none, .p (.bin .lss), [.t 21, .t 23]⟩,
    ⟨4, some 25, none, .p .mov, [.t 24]⟩,
    ⟨5, some 26, some (25, true), .p .mov, [.t 0]⟩,
    ⟨6, some 27, some (25, true), .p .mov, [.t 5]⟩,
    ⟨7, some 28, some (25, true), .p (.idx 1), [.t 26, .t 27]⟩,
    ⟨8, some 29, some (25, true), .r (.load false 1) false, [.t 28]⟩,
    ⟨9, some 30, some (25, true), .p .mov, [.t 1]⟩,
    ⟨10, some 31, some (25, true), .p (.bin .eql), [.t 29, .t 30]⟩,
    ⟨11, some 32, none, .p .pick, [.t 25, .t 31, .c (.bool false)]⟩])
   (.cond (.t 32) (.seq (.reg 0 [⟨0, some 33, none, .p .mov, [.t 0]⟩,
    ⟨1, some 4, none, .p .mov, [.t 33]⟩])
   (.ret))
   (.skip)))
   (.seq (.reg 0 [⟨0, some 34, none, .e (.new (.lit 1)) [] [], []⟩,
    ⟨1, some 35, none, .p .mov, [.t 0]⟩,
    ⟨2, some 36, none, .p .mov, [.t 5]⟩,
    ⟨3, some 37, none, .p (.slice 1 false true false), [.t 35, .t 36]⟩,
    ⟨4, some 38, none, .e (.append 1 8) [] [], [.t 34, .t 37]⟩,
    ⟨5, some 6, none, .p .mov, [.t 38]⟩])
   (.seq (.reg 0 [⟨0, some 39, none, .p .mov, [.t 6]⟩,
    ⟨1, some 40, none, .p .mov, [.t 1]⟩,
    ⟨2, some 41, none, .e (.new (.lit 1)) [] [], [.t 40]⟩,
    ⟨3, some 42, none, .e (.append 1 8) [] [], [.t 39, .t 41]⟩,
    ⟨4, some 6, none, .p .mov, [.t 42]⟩])
   (.seq (.reg 0 [⟨0, some 43, none, .p .mov, [.t 6]⟩,
    ⟨1, some 44, none, .p .mov, [.t 0]⟩,
    ⟨2, some 45, none, .p .mov, [.t 5]⟩,
    ⟨3, some 46, none, .p (.slice 1 true false false), [.t 44, .t 45]⟩,
    ⟨4, some 47, none, .e (.append 1 8) [] [], [.t 43, .t 46]⟩,
    ⟨5, some 4, none, .p .mov, [.t 47]⟩])
   (.ret))))))),
  [.tmp 4]⟩
/- loop.example/g00641/laws.szIntS -/
def g290 : GL.Fn := ⟨.seq (.reg 0 [⟨0, some 4, none, .p .mov, [.c (.int .i64 0)]⟩])
   (.seq (.reg 0 [⟨0, some 5, none, .p .mov, [.t 1]⟩,
    ⟨1, some 6, none, .p .mov, [.t 0]⟩,
    ⟨2, some 7, none, .p .len, [.t 6]⟩,
    ⟨3, some 8, none, .p (.bin .sub), [.t 5, .t 7]⟩,
    ⟨4, some 1, none, .p .mov, [.t 8]⟩])
   (.seq (.seq (.reg 0 [⟨0, some 9, none, .p .mov, [.t 1]⟩,
    ⟨1, some 10, none, .p (.bin .lss), [.t 9, .c (.int .i64 0)]⟩])
   (.cond (.t 10) (.seq (.reg 0 [⟨0, some 4, none, .p .mov, [.c (.int .i64 (-1))]⟩])
   (.ret))
   (.skip)))
   (.seq (.reg 0 [⟨0, some 11, none, .p .mov, [.t 1]⟩,
    ⟨1, some 4, none, .p .mov, [.t 11]⟩])
   (.ret)))),
  [.tmp 4]⟩
/- loop.example/g00641/laws.toDeed -/
def g564 : GL.Fn := ⟨.seq (.reg 0 [⟨0, some 1, none, .l (.box 1 2), [.t 0]⟩,
    ⟨1, some 2, none, .l (.alloc 2 [.int .i64 0, .bool false]), []⟩])
   (.seq (.reg 0 [⟨0, some 3, none, .l (.alloc 3 [.int .i64 0, .bool false]), []⟩])
   (.seq (.reg 0 [⟨0, some 4, none, .p (.faddr 0), [.t 1]⟩,
    ⟨1, some 5, none, .l (.load 1 false 1), [.t 4]⟩,
    ⟨2, some 6, none, .p (.faddr 0), [.t 3]⟩,
    ⟨3, none, none, .l (.store 3 1), [.t 6, .t 5]⟩])
   (.seq (.reg 0 [⟨0, some 7, none, .p (.faddr 1), [.t 1]⟩,
    ⟨1, some 8, none, .l (.load 1 false 1), [.t 7]⟩,
    ⟨2, some 9, none, .p (.faddr 1), [.t 3]⟩,
    ⟨3, none, none, .l (.store 3 1), [.t 9, .t 8]⟩])
   (.seq (.reg 0 [⟨0, some 10, none, .l (.load 3 true 2), [.t 3]⟩,
    ⟨1, none, none, .l (.store 2 2), [.t 2, .t 10]⟩])
   (.ret))))),
  [.cellL 2 2 true 2]⟩
/- slices.Sort[[]int,int] -/
def g340 : GL.Fn := ⟨.seq (.reg 0 [⟨0, some 3, none, .p .mov, [.t 0]⟩,
    ⟨1, some 4, none, .p .len, [.t 3]⟩,
    ⟨2, some 2, none, .p .mov, [.t 4]⟩])
   (.reg 0 [⟨0, some 5, none, .p .mov, [.t 0]⟩,
    ⟨1, some 6, none, .p .mov, [.t 2]⟩,
    ⟨2, some 7, none, .p .mov, [.t 2]⟩,
    ⟨3, some 8, none, .p (.conv .u64), [.t 7]⟩,
    ⟨4, some 9, none, .e .call [] [], [.f 157, .t 8]⟩,
    ⟨5, some 10, none, .e .call [] [], [.f 398, .t 5, .c (.int .i64 0), .t 6, .t 9]⟩]),
  []⟩
/- loop.example/g00641/laws.eqDeed -/
def g565 : GL.Fn := ⟨.seq (.reg 0 [⟨0, some 2, none, .l (.box 2 2), [.t 0]⟩,
    ⟨1, some 3, none, .l (.box 3 2), [.t 1]⟩,
    ⟨2, some 4, none, .p .mov, [.c (.bool false)]⟩])
   (.seq (.seq (.reg 0 [⟨0, some 5, none, .p (.faddr 0), [.t 2]⟩,
    ⟨1, some 6, none, .l (.load 2 false 1), [.t 5]⟩,
    ⟨2, some 7, none, .p (.faddr 0), [.t 3]⟩,
    ⟨3, some 8, none, .l (.load 3 false 1), [.t 7]⟩,
    ⟨4, some 9, none, .p (.bin .neq), [.t 6, .t 8]⟩])
   (.cond (.t 9) (.seq (.reg 0 [⟨0, some 4, none, .p .mov, [.c (.bool false)]⟩])
   (.ret))
   (.skip)))
   (.seq (.seq (.reg 0 [⟨0, some 10, none, .p (.faddr 1), [.t 2]⟩,
    ⟨1, some 11, none, .l (.load 2 false 1), [.t 10]⟩,
    ⟨2, some 12, none, .p (.faddr 1), [.t 3]⟩,
    ⟨3, some 13, none, .l (.load 3 false 1), [.t 12]⟩,
    ⟨4, some 14, none, .p (.eqB true), [.t 11, .t 13]⟩])
   (.cond (.t 14) (.seq (.reg 0 [⟨0, some 4, none, .p .mov, [.c (.bool false)]⟩])
   (.ret))
   (.skip)))
   (.seq (.reg 0 [⟨0, some 4, none, .p .mov, [.c (.bool true)]⟩])
   (.ret)))),
  [.tmp 4]⟩
/- loop.example/g00641/spec.l11Slow -/
def g333 : GL.Fn := ⟨.seq (.reg 0 [⟨0, some 2, none, .p .mov, [.c (.int .i64 0)]⟩])
   (.seq (.reg 0 [⟨0, some 3, none, .p .mov, [.t 0]⟩,
    ⟨1, some 4, none, .p (.bin .quo), [.t 3, .c (.int .i64 2)]⟩,
    ⟨2, some 5, none, .p (.bin .add), [.t 4, .c (.int .i64 1)]⟩,
    ⟨3, some 2, none, .p .mov, [.t 5]⟩])
   (.ret)),
  [.tmp 2]⟩
/- (loop.example/g00641/impl.Heard).areAlike$1 -/
def g566 : GL.Fn := ⟨.seq (.reg 0 [⟨0, some 5, none, .p .mov, [.c (.bool false)]⟩])
   (.seq (.reg 0 [⟨0, some 6, none, .r (.load true 3) false, [.t 1]⟩,
    ⟨1, some 7, none, .p .mov, [.t 0]⟩,
    ⟨2, some 8, none, .r (.load false 1) false, [.t 2]⟩,
    ⟨4, some 10, none, .r (.load true 3) true, [.t 1]⟩,
    ⟨5, some 11, none, .r (.load false 1) true, [.t 3]⟩,
    ⟨6, some 12, none, .p (.idx 1), [.t 11, .c (.int .i64 0)]⟩,
    ⟨7, some 13, none, .r (.load false 1) true, [.t 12]⟩,
    ⟨8, some 14, none, .r (.load false 1) true, [.t 2]⟩,
    ⟨3, some 9, none, .e .call [4, 5, 7, 8] [], [.f 519, .t 6, .t 7, .t 8]⟩,
    ⟨9, some 15, none, .e .call [] [], [.f 519, .t 10, .t 13, .t 14]⟩,
    ⟨10, some 16, none, .e .call [] [], [.f 386, .t 9, .t 15]⟩,
    ⟨11, some 17, none, .p (.un .not), [.t 16]⟩,
    ⟨12, some 5, none, .p .mov, [.t 17]⟩])
   (.ret)),
  [.tmp 5]⟩
/- slices.Equal[[]int,int] -/
def g386_0 : GL.Code := .seq (.reg 0 [⟨0, some 14, none, .p (.bin .lss), [.t 13, .t 12]⟩])
   (.seq (.cond (.t 14) (.skip)
   (.exit 0))
   (.seq (.block 1 (.seq (.reg 0 [⟨0, some 15, none, .p .mov, [.t 13]⟩,
    ⟨1, some 5, none, .p .mov, [.t 15]⟩])
   (.seq (.reg 0 [⟨0, some 16, none, .p .mov, [.t 0]⟩,
    ⟨1, some 17, none, .p .mov, [.t 5]⟩,
    ⟨2, some 18, none, .p (.idx 1), [.t 16, .t 17]⟩,
    ⟨3, some 19, none, .r (.load false 1) false, [.t 18]⟩,
    ⟨4, some 20, none, .p .mov, [.t 1]⟩,
    ⟨5, some 21, none, .p .mov, [.t 5]⟩,
    ⟨6, some 22, none, .p (.idx 1), [.t 20, .t 21]⟩,
    ⟨7, some 23, none, .r (.load false 1) false, [.t 22]⟩,
    ⟨8, some 24, none, .p (.bin .neq), [.t 19, .t 23]⟩])
   (.cond (.t 24) (.seq (.reg 0 [⟨0, some 4, none, .p .mov, [.c (.bool false)]⟩])
   (.ret))
   (.skip)))))
   (.reg 0 [⟨0, some 25, none, .p (.bin .add), [.t 13, .c (.int .i64 1)]⟩,
    ⟨1, some 13, none, .p .mov, [.t 25]⟩])))
def g386 : GL.Fn := ⟨.seq (.reg 0 [⟨0, some 4, none, .p .mov, [.c (.bool false)]⟩])
   (.seq (.seq (.reg 0 [⟨0, some 6, none, .p .mov, [.t 0]⟩,
    ⟨1, some 7, none, .p .len, [.t 6]⟩,
    ⟨2, some 8, none, .p .mov, [.t 1]⟩,
    ⟨3, some 9, none, .p .len, [.t 8]⟩,
    ⟨4, some 10, none, .p (.bin .neq), [.t 7, .t 9]⟩])
   (.cond (.t 10) (.seq (.reg 0 [⟨0, some 4, none, .p .mov, [.c (.bool false)]⟩])
   (.ret))
   (.skip)))
   (.seq (.seq (.reg 0 [⟨0, some 11, none, .p .mov, [.t 0]⟩,
    ⟨1, some 12, none, .p .len, [.t 11]⟩,
    ⟨2, some 13, none, .p .mov, [.c (.int .i64 0)]⟩])
   (.block 0 (.loop g386_0)))
   (.seq (.reg 0 [⟨0, some 4, none, .p .mov, [.c (.bool true)]⟩])
   (.ret)))),
  [.tmp 4]⟩
/- slices.IndexFunc[[]loop.example/g00641/impl.Deed,loop.example/g00641/impl.Deed] -/
def g569_0 : GL.Code := .seq (.reg 0 [⟨0, some 9, none, .p (.bin .lss), [.t 8, .t 7]⟩])
   (.seq (.cond (.t 9) (.skip)
   (.exit 0))
   (.seq (.block 1 (.seq (.reg 0 [⟨0, some 10, none, .p .mov, [.t 8]⟩,
    ⟨1, some 5, none, .p .mov, [.t 10]⟩])
   (.seq (.reg 0 [⟨0, some 11, none, .p .mov, [.t 1]⟩,
    ⟨1, some 12, none, .p .mov, [.t 0]⟩,
    ⟨2, some 13, none, .p .mov, [.t 5]⟩,
    ⟨3, some 14, none, .p (.idx 2), [.t 12, .t 13]⟩,
    ⟨4, some 15, none, .r (.load true 2) false, [.t 14]⟩,
    ⟨5, some 16, none, .e .call [] [], [.t 11, .t 15]⟩])
   (.cond (.t 16) (.seq (.reg 0 [⟨0, some 17, none, .p .mov, [.t 5]⟩,
    ⟨1, some 4, none, .p .mov, [.t 17]⟩])
   (.ret))
   (.skip)))))
   (.reg 0 [⟨0, some 18, none, .p (.bin .add), [.t 8, .c (.int .i64 1)]⟩,
    ⟨1, some 8, none, .p .mov, [.t 18]⟩])))
def g569 : GL.Fn := ⟨.seq (.reg 0 [⟨0, some 4, none, .p .mov, [.c (.int .i64 0)]⟩])
   (.seq (.seq (.reg 0 [⟨0, some 6, none, .p .mov, [.t 0]⟩,
    ⟨1, some 7, none, .p .len, [.t 6]⟩,
    ⟨2, some 8, none, .p .mov, [.c (.int .i64 0)]⟩])
   (.block 0 (.loop g569_0)))
   (.seq (.reg 0 [⟨0, some 4, none, .p .mov, [.c (.int .i64 (-1))]⟩])
   (.ret))),
  [.tmp 4]⟩
/- slices.IndexFunc[[][]int,[]int] -/
def g395_0 : GL.Code := .seq (.reg 0 [⟨0, some 9, none, .p (.bin .lss), [.t 8, .t 7]⟩])
   (.seq (.cond (.t 9) (.skip)
   (.exit 0))
   (.seq (.block 1 (.seq (.reg 0 [⟨0, some 10, none, .p .mov, [.t 8]⟩,
    ⟨1, some 5, none, .p .mov, [.t 10]⟩])
   (.seq (.reg 0 [⟨0, some 11, none, .p .mov, [.t 1]⟩,
    ⟨1, some 12, none, .p .mov, [.t 0]⟩,
    ⟨2, some 13, none, .p .mov, [.t 5]⟩,
    ⟨3, some 14, none, .p (.idx 1), [.t 12, .t 13]⟩,
    ⟨4, some 15, none, .r (.load false 1) false, [.t 14]⟩,
    ⟨5, some 16, none, .e .call [] [], [.t 11, .t 15]⟩])
   (.cond (.t 16) (.seq (.reg 0 [⟨0, some 17, none, .p .mov, [.t 5]⟩,
    ⟨1, some 4, none, .p .mov, [.t 17]⟩])
   (.ret))
   (.skip)))))
   (.reg 0 [⟨0, some 18, none, .p (.bin .add), [.t 8, .c (.int .i64 1)]⟩,
    ⟨1, some 8, none, .p .mov, [.t 18]⟩])))
def g395 : GL.Fn := ⟨.seq (.reg 0 [⟨0, some 4, none, .p .mov, [.c (.int .i64 0)]⟩])
   (.seq (.seq (.reg 0 [⟨0, some 6, none, .p .mov, [.t 0]⟩,
    ⟨1, some 7, none, .p .len, [.t 6]⟩,
    ⟨2, some 8, none, .p .mov, [.c (.int .i64 0)]⟩])
   (.block 0 (.loop g395_0)))
   (.seq (.reg 0 [⟨0, some 4, none, .p .mov, [.c (.int .i64 (-1))]⟩])
   (.ret))),
  [.tmp 4]⟩
/- slices.IndexFunc[[]int,int] -/
def g391_0 : GL.Code := .seq (.reg 0 [⟨0, some 9, none, .p (.bin .lss), [.t 8, .t 7]⟩])
   (.seq (.cond (.t 9) (.skip)
   (.exit 0))
   (.seq (.block 1 (.seq (.reg 0 [⟨0, some 10, none, .p .mov, [.t 8]⟩,
    ⟨1, some 5, none, .p .mov, [.t 10]⟩])
   (.seq (.reg 0 [⟨0, some 11, none, .p .mov, [.t 1]⟩,
    ⟨1, some 12, none, .p .mov, [.t 0]⟩,
    ⟨2, some 13, none, .p .mov, [.t 5]⟩,
    ⟨3, some 14, none, .p (.idx 1), [.t 12, .t 13]⟩,
    ⟨4, some 15, none, .r (.load false 1) false, [.t 14]⟩,
    ⟨5, some 16, none, .e .call [] [], [.t 11, .t 15]⟩])
   (.cond (.t 16) (.seq (.reg 0 [⟨0, some 17, none, .p .mov, [.t 5]⟩,
    ⟨1, some 4, none, .p .mov, [.t 17]⟩])
   (.ret))
   (.skip)))))
   (.reg 0 [⟨0, some 18, none, .p (.bin .add), [.t 8, .c (.int .i64 1)]⟩,
    ⟨1, some 8, none, .p .mov, [.t 18]⟩])))
def g391 : GL.Fn := ⟨.seq (.reg 0 [⟨0, some 4, none, .p .mov, [.c (.int .i64 0)]⟩])
   (.seq (.seq (.reg 0 [⟨0, some 6, none, .p .mov, [.t 0]⟩,
    ⟨1, some 7, none, .p .len, [.t 6]⟩,
    ⟨2, some 8, none, .p .mov, [.c (.int .i64 0)]⟩])
   (.block 0 (.loop g391_0)))
   (.seq (.reg 0 [⟨0, some 4, none, .p .mov, [.c (.int .i64 (-1))]⟩])
   (.ret))),
  [.tmp 4]⟩
/- slices.pdqsortOrdered[int] -/
def g398_0 : GL.Code := .block 1 (.seq (.reg 0 [⟨0, some 19, none, .p .mov, [.t 2]⟩,
    ⟨1, some 20, none, .p .mov, [.t 1]⟩,
    ⟨2, some 21, none, .p (.bin .sub), [.t 19, .t 20]⟩,
    ⟨3, some 10, none, .p .mov, [.t 21]⟩])
   (.seq (.seq (.reg 0 [⟨0, some 22, none, .p .mov, [.t 10]⟩,
    ⟨1, some 23, none, .p (.bin .leq), [.t 22, .c (.int .i64 12)]⟩])
   (.cond (.t 23) (.seq (.reg 0 [⟨0, some 24, none, .p .mov, [.t 0]⟩,
    ⟨1, some 25, none, .p .mov, [.t 1]⟩,
    ⟨2, some 26, none, .p .mov, [.t 2]⟩,
    ⟨3, some 27, none, .e .call [] [], [.f 416, .t 24, .t 25, .t 26]⟩])
   (.ret))
   (.skip)))
   (.seq (.seq (.reg 0 [⟨0, some 28, none, .p .mov, [.t 3]⟩,
    ⟨1, some 29, none, .p (.bin .eql), [.t 28, .c (.int .i64 0)]⟩])
   (.cond (.t 29) (.seq (.reg 0 [⟨0, some 30, none, .p .mov, [.t 0]⟩,
    ⟨1, some 31, none, .p .mov, [.t 1]⟩,
    ⟨2, some 32, none, .p .mov, [.t 2]⟩,
    ⟨3, some 33, none, .e .call [] [], [.f 417, .t 30, .t 31, .t 32]⟩])
   (.ret))
   (.skip)))
   (.seq (.seq (.reg 0 [⟨0, some 34, none, .p .mov, [.t 8]⟩,
    ⟨1, some 35, none, .p (.un .not), [.t 34]⟩])
   (.cond (.t 35) (.seq (.reg 0 [⟨0, some 36, none, .p .mov, [.t 0]⟩,
    ⟨1, some 37, none, .p .mov, [.t 1]⟩,
    ⟨2, some 38, none, .p .mov, [.t 2]⟩,
    ⟨3, some 39, none, .e .call [] [], [.f 418, .t 36, .t 37, .t 38]⟩])
   (.reg 0 [⟨0, some 40, none, .p .mov, [.t 3]⟩,
    ⟨1, some 41, none, .p (.bin .sub), [.t 40, .c (.int .i64 1)]⟩,
    ⟨2, some 3, none, .p .mov, [.t 41]⟩]))
   (.skip)))
   (.seq (.reg 0 [⟨0, some 43, none, .p .mov, [.t 0]⟩,
    ⟨1, some 44, none, .p .mov, [.t 1]⟩,
    ⟨2, some 45, none, .p .mov, [.t 2]⟩,
    ⟨3, some 46, none, .e .call [] [], [.f 419, .t 43, .t 44, .t 45]⟩,
    ⟨4, some 42, none, .p .mov, [.t 46]⟩,
    ⟨5, some 47, none, .p (.extract 0), [.t 42]⟩,
    ⟨6, some 48, none, .p (.extract 1), [.t 42]⟩,
    ⟨7, some 11, none, .p .mov, [.t 47]⟩,
    ⟨8, some 12, none, .p .mov, [.t 48]⟩])
   (.seq (.seq (.reg 0 [⟨0, some 49, none, .p .mov, [.t 12]⟩,
    ⟨1, some 50, none, .p (.bin .eql), [.t 49, .c (.int .i64 2)]⟩])
   (.cond (.t 50) (.seq (.reg 0 [⟨0, some 51, none, .p .mov, [.t 0]⟩,
    ⟨1, some 52, none, .p .mov, [.t 1]⟩,
    ⟨2, some 53, none, .p .mov, [.t 2]⟩,
    ⟨3, some 54, none, .e .call [] [], [.f 420, .t 51, .t 52, .t 53]⟩])
   (.seq (.reg 0 [⟨0, some 55, none, .p .mov, [.t 2]⟩,
    ⟨1, some 56, none, .p (.bin .sub), [.t 55, .c (.int .i64 1)]⟩,
    ⟨2, some 57, none, .p .mov, [.t 11]⟩,
    ⟨3, some 58, none, .p .mov, [.t 1]⟩,
    ⟨4, some 59, none, .p (.bin .sub), [.t 57, .t 58]⟩,
    ⟨5, some 60, none, .p (.bin .sub), [.t 56, .t 59]⟩,
    ⟨6, some 11, none, .p .mov, [.t 60]⟩])
   (.reg 0 [⟨0, some 12, none, .p .mov, [.c (.int .i64 1)]⟩])))
   (.skip)))
   (.seq (.seq (.reg 0 [⟨0, some 61, none, .p .mov, [.t 8]⟩,
    ⟨1, some 62, none, .p .mov, [.t 61]⟩,
    ⟨2, some 63, some (62, true), .p .mov, [.t 9]⟩,
    ⟨3, some 64, none, .p .pick, [.t 62, .t 63, .c (.bool false)]⟩,
    ⟨4, some 65, none, .p .mov, [.t 64]⟩,
    ⟨5, some 66, some (65, true), .p .mov, [.t 12]⟩,
    ⟨6, some 67, some (65, true), .p (.bin .eql), [.t 66, .c (.int .i64 1)]⟩,
    ⟨7, some 68, none, .p .pick, [.t 65, .t 67, .c (.bool false)]⟩])
   (.cond (.t 68) (.seq (.reg 0 [⟨0, some 69, none, .p .mov, [.t 0]⟩,
    ⟨1, some 70, none, .p .mov, [.t 1]⟩,
    ⟨2, some 71, none, .p .mov, [.t 2]⟩,
    ⟨3, some 72, none, .e .call [] [], [.f 421, .t 69, .t 70, .t 71]⟩])
   (.cond (.t 72) (.ret)
   (.skip)))
   (.skip)))
   (.seq (.seq (.reg 0 [⟨0, some 73, none, .p .mov, [.t 1]⟩,
    ⟨1, some 74, none, .p (.bin .gtr), [.t 73, .c (.int .i64 0)]⟩,
    ⟨2, some 75, none, .p .mov, [.t 74]⟩,
    ⟨3, some 76, some (75, true), .p .mov, [.t 0]⟩,
    ⟨4, some 77, some (75, true), .p .mov, [.t 1]⟩,
    ⟨5, some 78, some (75, true), .p (.bin .sub), [.t 77, .c (.int .i64 1)]⟩,
    ⟨6, some 79, some (75, true), .p (.idx 1), [.t 76, .t 78]⟩,
    ⟨7, some 80, some (75, true), .r (.load false 1) false, [.t 79]⟩,
    ⟨8, some 81, some (75, true), .p .mov, [.t 0]⟩,
    ⟨9, some 82, some (75, true), .p .mov, [.t 11]⟩,
    ⟨10, some 83, some (75, true), .p (.idx 1), [.t 81, .t 82]⟩,
    ⟨11, some 84, some (75, true), .r (.load false 1) false, [.t 83]⟩,
    ⟨12, some 85, some (75, true), .e .call [] [], [.f 422, .t 80, .t 84]⟩,
    ⟨13, some 86, some (75, true), .p (.un .not), [.t 85]⟩,
    ⟨14, some 87, none, .p .pick, [.t 75, .t 86, .c (.bool false)]⟩])
   (.cond (.t 87) (.seq (.reg 0 [⟨0, some 88, none, .p .mov, [.t 0]⟩,
    ⟨1, some 89, none, .p .mov, [.t 1]⟩,
    ⟨2, some 90, none, .p .mov, [.t 2]⟩,
    ⟨3, some 91, none, .p .mov, [.t 11]⟩,
    ⟨4, some 92, none, .e .call [] [], [.f 423, .t 88, .t 89, .t 90, .t 91]⟩,
    ⟨5, some 13, none, .p .mov, [.t 92]⟩])
   (.seq (.reg 0 [⟨0, some 93, none, .p .mov, [.t 13]⟩,
    ⟨1, some 1, none, .p .mov, [.t 93]⟩])
   (.exit 1)))
   (.skip)))
   (.seq (.reg 0 [⟨0, some 95, none, .p .mov, [.t 0]⟩,
    ⟨1, some 96, none, .p .mov, [.t 1]⟩,
    ⟨2, some 97, none, .p .mov, [.t 2]⟩,
    ⟨3, some 98, none, .p .mov, [.t 11]⟩,
    ⟨4, some 99, none, .e .call [] [], [.f 424, .t 95, .t 96, .t 97, .t 98]⟩,
    ⟨5, some 94, none, .p .mov, [.t 99]⟩,
    ⟨6, some 100, none, .p (.extract 0), [.t 94]⟩,
    ⟨7, some 101, none, .p (.extract 1), [.t 94]⟩,
    ⟨8, some 14, none, .p .mov, [.t 100]⟩,
    ⟨9, some 15, none, .p .mov, [.t 101]⟩])
   (.seq (.reg 0 [⟨0, some 102, none, .p .mov, [.t 15]⟩,
    ⟨1, some 9, none, .p .mov, [.t 102]⟩])
   (.seq (.reg 0 [⟨0, some 103, none, .p .mov, [.t 14]⟩,
    ⟨1, some 104, none, .p .mov, [.t 1]⟩,
    ⟨2, some 105, none, .p (.bin .sub), [.t 103, .t 104]⟩,
    ⟨3, some 106, none, .p .mov, [.t 2]⟩,
    ⟨4, some 107, none, .p .mov, [.t 14]⟩,
    ⟨5, some 108, none, .p (.bin .sub), [.t 106, .t 107]⟩,
    ⟨6, some 16, none, .p .mov, [.t 105]⟩,
    ⟨7, some 17, none, .p .mov, [.t 108]⟩])
   (.seq (.reg 0 [⟨0, some 109, none, .p .mov, [.t 10]⟩,
    ⟨1, some 110, none, .p (.bin .quo), [.t 109, .c (.int .i64 8)]⟩,
    ⟨2, some 18, none, .p .mov, [.t 110]⟩])
   (.seq (.reg 0 [⟨0, some 111, none, .p .mov, [.t 16]⟩,
    ⟨1, some 112, none, .p .mov, [.t 17]⟩,
    ⟨2, some 113, none, .p (.bin .lss), [.t 111, .t 112]⟩])
   (.cond (.t 113) (.seq (.reg 0 [⟨0, some 114, none, .p .mov, [.t 16]⟩,
    ⟨1, some 115, none, .p .mov, [.t 18]⟩,
    ⟨2, some 116, none, .p (.bin .geq), [.t 114, .t 115]⟩,
    ⟨3, some 8, none, .p .mov, [.t 116]⟩])
   (.seq (.reg 0 [⟨0, some 117, none, .p .mov, [.t 0]⟩,
    ⟨1, some 118, none, .p .mov, [.t 1]⟩,
    ⟨2, some 119, none, .p .mov, [.t 14]⟩,
    ⟨3, some 120, none, .p .mov, [.t 3]⟩,
    ⟨4, some 121, none, .e .call [] [], [.f 398, .t 117, .t 118, .t 119, .t 120]⟩])
   (.reg 0 [⟨0, some 122, none, .p .mov, [.t 14]⟩,
    ⟨1, some 123, none, .p (.bin .add), [.t 122, .c (.int .i64 1)]⟩,
    ⟨2, some 1, none, .p .mov, [.t 123]⟩])))
   (.seq (.reg 0 [⟨0, some 124, none, .p .mov, [.t 17]⟩,
    ⟨1, some 125, none, .p .mov, [.t 18]⟩,
    ⟨2, some 126, none, .p (.bin .geq), [.t 124, .t 125]⟩,
    ⟨3, some 8, none, .p .mov, [.t 126]⟩])
   (.seq (.reg 0 [⟨0, some 127, none, .p .mov, [.t 0]⟩,
    ⟨1, some 128, none, .p .mov, [.t 14]⟩,
    ⟨2, some 129, none, .p (.bin .add), [.t 128, .c (.int .i64 1)]⟩,
    ⟨3, some 130, none, .p .mov, [.t 2]⟩,
    ⟨4, some 131, none, .p .mov, [.t 3]⟩,
    ⟨5, some 132, none, .e .call [] [], [.f 398, .t 127, .t 129, .t 130, .t 131]⟩])
   (.reg 0 [⟨0, some 133, none, .p .mov, [.t 14]⟩,
    ⟨1, some 2, none, .p .mov, [.t 133]⟩])))))))))))))))))
def g398 : GL.Fn := ⟨.seq (.reg 0 [⟨0, some 8, none, .p .mov, [.c (.bool true)]⟩])
   (.seq (.reg 0 [⟨0, some 9, none, .p .mov, [.c (.bool true)]⟩])
   (.block 0 (.loop g398_0))),
  []⟩
/- math/bits.Len -/
def g157 : GL.Fn := ⟨.seq (.reg 0 [⟨0, some 2, none, .p .mov, [.c (.int .i64 0)]⟩])
   (.seq (.cond (.c (.bool false)) (.seq (.reg 0 [⟨0, some 3, none, .p .mov, [.t 0]⟩,
    ⟨1, some 4, none, .p (.conv .u32), [.t 3]⟩,
    ⟨2, some 5, none, .e .call [] [], [.f 170, .t 4]⟩,
    ⟨3, some 2, none, .p .mov, [.t 5]⟩])
   (.ret))
   (.skip))
   (.seq (.reg 0 [⟨0, some 6, none, .p .mov, [.t 0]⟩,
    ⟨1, some 7, none, .e .call [] [], [.f 171, .t 6]⟩,
    ⟨2, some 2, none, .p .mov, [.t 7]⟩])
   (.ret))),
  [.tmp 2]⟩
/- slices.insertionSortOrdered[int] -/
def g416_0 : GL.Code := .seq (.seq (.reg 0 [⟨0, some 16, none, .p .mov, [.t 7]⟩,
    ⟨1, some 17, none, .p .mov, [.t 1]⟩,
    ⟨2, some 18, none, .p (.bin .gtr), [.t 16, .t 17]⟩,
    ⟨3, some 19, none, .p .mov, [.t 18]⟩,
    ⟨4, some 20, some (19, true), .p .mov, [.t 0]⟩,
    ⟨5, some 21, some (19, true), .p .mov, [.t 7]⟩,
    ⟨6, some 22, some (19, true), .p (.idx 1), [.t 20, .t 21]⟩,
    ⟨7, some 23, some (19, true), .r (.load false 1) false, [.t 22]⟩,
    ⟨8, some 24, some (19, true), .p .mov, [.t 0]⟩,
    ⟨9, some 25, some (19, true), .p .mov, [.t 7]⟩,
    ⟨10, some 26, some (19, true), .p (.bin .sub), [.t 25, .c (.int .i64 1)]⟩,
    ⟨11, some 27, some (19, true), .p (.idx 1), [.t 24, .t 26]⟩,
    ⟨12, some 28, some (19, true), .r (.load false 1) false, [.t 27]⟩,
    ⟨13, some 29, some (19, true), .e .call [] [], [.f 422, .t 23, .t 28]⟩,
    ⟨14, some 30, none, .p .pick, [.t 19, .t 29, .c (.bool false)]⟩])
   (.cond (.t 30) (.skip)
   (.exit 2)))
   (.seq (.block 3 (.reg 0 [⟨0, some 33, none, .p .mov, [.t 0]⟩,
    ⟨1, some 34, none, .p .mov, [.t 7]⟩,
    ⟨2, some 35, none, .p .mov, [.t 0]⟩,
    ⟨3, some 36, none, .p .mov, [.t 7]⟩,
    ⟨4, some 37, none, .p (.bin .sub), [.t 36, .c (.int .i64 1)]⟩,
    ⟨5, some 38, none, .p .mov, [.t 0]⟩,
    ⟨6, some 39, none, .p .mov, [.t 7]⟩,
    ⟨7, some 40, none, .p (.bin .sub), [.t 39, .c (.int .i64 1)]⟩,
    ⟨8, some 41, none, .p (.idx 1), [.t 38, .t 40]⟩,
    ⟨9, some 42, none, .r (.load false 1) false, [.t 41]⟩,
    ⟨10, some 43, none, .p .mov, [.t 0]⟩,
    ⟨11, some 44, none, .p .mov, [.t 7]⟩,
    ⟨12, some 45, none, .p (.idx 1), [.t 43, .t 44]⟩,
    ⟨13, some 46, none, .r (.load false 1) false, [.t 45]⟩,
    ⟨14, some 47, none, .p (.idx 1), [.t 33, .t 34]⟩,
    ⟨15, none, none, .e (.store 1) [] [], [.t 47, .t 42]⟩,
    ⟨16, some 48, none, .p (.idx 1), [.t 35, .t 37]⟩,
    ⟨17, none, none, .e (.store 1) [] [], [.t 48, .t 46]⟩]))
   (.reg 0 [⟨0, some 31, none, .p .mov, [.t 7]⟩,
    ⟨1, some 32, none, .p (.bin .sub), [.t 31, .c (.int .i64 1)]⟩,
    ⟨2, some 7, none, .p .mov, [.t 32]⟩]))
def g416_1 : GL.Code := .seq (.seq (.reg 0 [⟨0, some 10, none, .p .mov, [.t 6]⟩,
    ⟨1, some 11, none, .p .mov, [.t 2]⟩,
    ⟨2, some 12, none, .p (.bin .lss), [.t 10, .t 11]⟩])
   (.cond (.t 12) (.skip)
   (.exit 0)))
   (.seq (.block 1 (.seq (.reg 0 [⟨0, some 15, none, .p .mov, [.t 6]⟩,
    ⟨1, some 7, none, .p .mov, [.t 15]⟩])
   (.block 2 (.loop g416_0))))
   (.reg 0 [⟨0, some 13, none, .p .mov, [.t 6]⟩,
    ⟨1, some 14, none, .p (.bin .add), [.t 13, .c (.int .i64 1)]⟩,
    ⟨2, some 6, none, .p .mov, [.t 14]⟩]))
def g416 : GL.Fn := ⟨.seq (.reg 0 [⟨0, some 8, none, .p .mov, [.t 1]⟩,
    ⟨1, some 9, none, .p (.bin .add), [.t 8, .c (.int .i64 1)]⟩,
    ⟨2, some 6, none, .p .mov, [.t 9]⟩])
   (.block 0 (.loop g416_1)),
  []⟩
/- slices.heapSortOrdered[int] -/
def g417_0 : GL.Code := .seq (.seq (.reg 0 [⟨0, some 18, none, .p .mov, [.t 9]⟩,
    ⟨1, some 19, none, .p (.bin .geq), [.t 18, .c (.int .i64 0)]⟩])
   (.cond (.t 19) (.skip)
   (.exit 0)))
   (.seq (.block 1 (.reg 0 [⟨0, some 22, none, .p .mov, [.t 0]⟩,
    ⟨1, some 23, none, .p .mov, [.t 9]⟩,
    ⟨2, some 24, none, .p .mov, [.t 8]⟩,
    ⟨3, some 25, none, .p .mov, [.t 6]⟩,
    ⟨4, some 26, none, .e .call [] [], [.f 431, .t 22, .t 23, .t 24, .t 25]⟩]))
   (.reg 0 [⟨0, some 20, none, .p .mov, [.t 9]⟩,
    ⟨1, some 21, none, .p (.bin .sub), [.t 20, .c (.int .i64 1)]⟩,
    ⟨2, some 9, none, .p .mov, [.t 21]⟩]))
def g417_1 : GL.Code := .seq (.seq (.reg 0 [⟨0, some 29, none, .p .mov, [.t 10]⟩,
    ⟨1, some 30, none, .p (.bin .geq), [.t 29, .c (.int .i64 0)]⟩])
   (.cond (.t 30) (.skip)
   (.exit 2)))
   (.seq (.block 3 (.seq (.reg 0 [⟨0, some 33, none, .p .mov, [.t 0]⟩,
    ⟨1, some 34, none, .p .mov, [.t 6]⟩,
    ⟨2, some 35, none, .p .mov, [.t 0]⟩,
    ⟨3, some 36, none, .p .mov, [.t 6]⟩,
    ⟨4, some 37, none, .p .mov, [.t 10]⟩,
    ⟨5, some 38, none, .p (.bin .add), [.t 36, .t 37]⟩,
    ⟨6, some 39, none, .p .mov, [.t 0]⟩,
    ⟨7, some 40, none, .p .mov, [.t 6]⟩,
    ⟨8, some 41, none, .p .mov, [.t 10]⟩,
    ⟨9, some 42, none, .p (.bin .add), [.t 40, .t 41]⟩,
    ⟨10, some 43, none, .p (.idx 1), [.t 39, .t 42]⟩,
    ⟨11, some 44, none, .r (.load false 1) false, [.t 43]⟩,
    ⟨12, some 45, none, .p .mov, [.t 0]⟩,
    ⟨13, some 46, none, .p .mov, [.t 6]⟩,
    ⟨14, some 47, none, .p (.idx 1), [.t 45, .t 46]⟩,
    ⟨15, some 48, none, .r (.load false 1) false, [.t 47]⟩,
    ⟨16, some 49, none, .p (.idx 1), [.t 33, .t 34]⟩,
    ⟨17, none, none, .e (.store 1) [] [], [.t 49, .t 44]⟩,
    ⟨18, some 50, none, .p (.idx 1), [.t 35, .t 38]⟩,
    ⟨19, none, none, .e (.store 1) [] [], [.t 50, .t 48]⟩])
   (.reg 0 [⟨0, some 51, none, .p .mov, [.t 0]⟩,
    ⟨1, some 52, none, .p .mov, [.t 7]⟩,
    ⟨2, some 53, none, .p .mov, [.t 10]⟩,
    ⟨3, some 54, none, .p .mov, [.t 6]⟩,
    ⟨4, some 55, none, .e .call [] [], [.f 431, .t 51, .t 52, .t 53, .t 54]⟩])))
   (.reg 0 [⟨0, some 31, none, .p .mov, [.t 10]⟩,
    ⟨1, some 32, none, .p (.bin .sub), [.t 31, .c (.int .i64 1)]⟩,
    ⟨2, some 10, none, .p .mov, [.t 32]⟩]))
def g417 : GL.Fn := ⟨.seq (.reg 0 [⟨0, some 11, none, .p .mov, [.t 1]⟩,
    ⟨1, some 6, none, .p .mov, [.t 11]⟩])
   (.seq (.reg 0 [⟨0, some 7, none, .p .mov, [.c (.int .i64 0)]⟩])
   (.seq (.reg 0 [⟨0, some 12, none, .p .mov, [.t 2]⟩,
    ⟨1, some 13, none, .p .mov, [.t 1]⟩,
    ⟨2, some 14, none, .p (.bin .sub), [.t 12, .t 13]⟩,
    ⟨3, some 8, none, .p .mov, [.t 14]⟩])
   (.seq (.seq (.reg 0 [⟨0, some 15, none, .p .mov, [.t 8]⟩,
    ⟨1, some 16, none, .p (.bin .sub), [.t 15, .c (.int .i64 1)]⟩,
    ⟨2, some 17, none, .p (.bin .quo), [.t 16, .c (.int .i64 2)]⟩,
    ⟨3, some 9, none, .p .mov, [.t 17]⟩])
   (.block 0 (.loop g417_0)))
   (.seq (.reg 0 [⟨0, some 27, none, .p .mov, [.t 8]⟩,
    ⟨1, some 28, none, .p (.bin .sub), [.t 27, .c (.int .i64 1)]⟩,
    ⟨2, some 10, none, .p .mov, [.t 28]⟩])
   (.block 2 (.loop g417_1)))))),
  []⟩
/- slices.breakPatternsOrdered[int] -/
def g418_0 : GL.Code := .seq (.seq (.reg 0 [⟨0, some 26, none, .p .mov, [.t 9]⟩,
    ⟨1, some 27, none, .p .mov, [.t 1]⟩,
    ⟨2, some 28, none, .p .mov, [.t 6]⟩,
    ⟨3, some 29, none, .p (.bin .quo), [.t 28, .c (.int .i64 4)]⟩,
    ⟨4, some 30, none, .p (.bin .mul), [.t 29, .c (.int .i64 2)]⟩,
    ⟨5, some 31, none, .p (.bin .add), [.t 27, .t 30]⟩,
    ⟨6, some 32, none, .p (.bin .add), [.t 31, .c (.int .i64 1)]⟩,
    ⟨7, some 33, none, .p (.bin .leq), [.t 26, .t 32]⟩])
   (.cond (.t 33) (.skip)
   (.exit 0)))
   (.seq (.block 1 (.seq (.reg 0 [⟨0, some 36, none, .e .call [] [], [.f 175, .t 7]⟩,
    ⟨1, some 37, none, .p .mov, [.t 8]⟩,
    ⟨2, some 38, none, .p (.bin .sub), [.t 37, .c (.int .u64 1)]⟩,
    ⟨3, some 39, none, .p (.bin .and), [.t 36, .t 38]⟩,
    ⟨4, some 40, none, .p (.conv .i64), [.t 39]⟩,
    ⟨5, some 10, none, .p .mov, [.t 40]⟩])
   (.seq (.seq (.reg 0 [⟨0, some 41, none, .p .mov, [.t 10]⟩,
    ⟨1, some 42, none, .p .mov, [.t 6]⟩,
    ⟨2, some 43, none, .p (.bin .geq), [.t 41, .t 42]⟩])
   (.cond (.t 43) (.reg 0 [⟨0, some 44, none, .p .mov, [.t 10]⟩,
    ⟨1, some 45, none, .p .mov, [.t 6]⟩,
    ⟨2, some 46, none, .p (.bin .sub), [.t 44, .t 45]⟩,
    ⟨3, some 10, none, .p .mov, [.t 46]⟩])
   (.skip)))
   (.reg 0 [⟨0, some 47, none, .p .mov, [.t 0]⟩,
    ⟨1, some 48, none, .p .mov, [.t 9]⟩,
    ⟨2, some 49, none, .p .mov, [.t 0]⟩,
    ⟨3, some 50, none, .p .mov, [.t 1]⟩,
    ⟨4, some 51, none, .p .mov, [.t 10]⟩,
    ⟨5, some 52, none, .p (.bin .add), [.t 50, .t 51]⟩,
    ⟨6, some 53, none, .p .mov, [.t 0]⟩,
    ⟨7, some 54, none, .p .mov, [.t 1]⟩,
    ⟨8, some 55, none, .p .mov, [.t 10]⟩,
    ⟨9, some 56, none, .p (.bin .add), [.t 54, .t 55]⟩,
    ⟨10, some 57, none, .p (.idx 1), [.t 53, .t 56]⟩,
    ⟨11, some 58, none, .r (.load false 1) false, [.t 57]⟩,
    ⟨12, some 59, none, .p .mov, [.t 0]⟩,
    ⟨13, some 60, none, .p .mov, [.t 9]⟩,
    ⟨14, some 61, none, .p (.idx 1), [.t 59, .t 60]⟩,
    ⟨15, some 62, none, .r (.load false 1) false, [.t 61]⟩,
    ⟨16, some 63, none, .p (.idx 1), [.t 47, .t 48]⟩,
    ⟨17, none, none, .e (.store 1) [] [], [.t 63, .t 58]⟩,
    ⟨18, some 64, none, .p (.idx 1), [.t 49, .t 52]⟩,
    ⟨19, none, none, .e (.store 1) [] [], [.t 64, .t 62]⟩]))))
   (.reg 0 [⟨0, some 34, none, .p .mov, [.t 9]⟩,
    ⟨1, some 35, none, .p (.bin .add), [.t 34, .c (.int .i64 1)]⟩,
    ⟨2, some 9, none, .p .mov, [.t 35]⟩]))
def g418 : GL.Fn := ⟨.seq (.reg 0 [⟨0, some 11, none, .p .mov, [.t 2]⟩,
    ⟨1, some 12, none, .p .mov, [.t 1]⟩,
    ⟨2, some 13, none, .p (.bin .sub), [.t 11, .t 12]⟩,
    ⟨3, some 6, none, .p .mov, [.t 13]⟩])
   (.seq (.reg 0 [⟨0, some 14, none, .p .mov, [.t 6]⟩,
    ⟨1, some 15, none, .p (.bin .geq), [.t 14, .c (.int .i64 8)]⟩])
   (.cond (.t 15) (.seq (.reg 0 [⟨0, some 16, none, .p .mov, [.t 6]⟩,
    ⟨1, some 17, none, .p (.conv .u64), [.t 16]⟩,
    ⟨2, some 7, none, .e (.new (.alloc [.int .u64 0])) [] [], []⟩,
    ⟨3, none, none, .e (.store 1) [] [], [.t 7, .t 17]⟩])
   (.seq (.reg 0 [⟨0, some 18, none, .p .mov, [.t 6]⟩,
    ⟨1, some 19, none, .e .call [] [], [.f 174, .t 18]⟩,
    ⟨2, some 8, none, .p .mov, [.t 19]⟩])
   (.seq (.reg 0 [⟨0, some 20, none, .p .mov, [.t 1]⟩,
    ⟨1, some 21, none, .p .mov, [.t 6]⟩,
    ⟨2, some 22, none, .p (.bin .quo), [.t 21, .c (.int .i64 4)]⟩,
    ⟨3, some 23, none, .p (.bin .mul), [.t 22, .c (.int .i64 2)]⟩,
    ⟨4, some 24, none, .p (.bin .add), [.t 20, .t 23]⟩,
    ⟨5, some 25, none, .p (.bin .sub), [.t 24, .c (.int .i64 1)]⟩,
    ⟨6, some 9, none, .p .mov, [.t 25]⟩])
   (.block 0 (.loop g418_0)))))
   (.skip))),
  []⟩
/- slices.choosePivotOrdered[int] -/
def g419 : GL.Fn := ⟨.seq (.reg 0 [⟨0, some 6, none, .p .mov, [.c (.int .i64 0)]⟩,
    ⟨1, some 7, none, .p .mov, [.c (.int .i64 0)]⟩])
   (.seq (.reg 0 [⟨0, some 13, none, .p .mov, [.t 2]⟩,
    ⟨1, some 14, none, .p .mov, [.t 1]⟩,
    ⟨2, some 15, none, .p (.bin .sub), [.t 13, .t 14]⟩,
    ⟨3, some 8, none, .p .mov, [.t 15]⟩])
   (.seq (.reg 0 [⟨0, some 9, none, .e (.new (.alloc [.int .i64 0])) [] [], []⟩])
   (.seq (.reg 0 [⟨0, some 16, none, .p .mov, [.t 1]⟩,
    ⟨1, some 17, none, .p .mov, [.t 8]⟩,
    ⟨2, some 18, none, .p (.bin .quo), [.t 17, .c (.int .i64 4)]⟩,
    ⟨3, some 19, none, .p (.bin .mul), [.t 18, .c (.int .i64 1)]⟩,
    ⟨4, some 20, none, .p (.bin .add), [.t 16, .t 19]⟩,
    ⟨5, some 10, none, .p .mov, [.t 20]⟩])
   (.seq (.reg 0 [⟨0, some 21, none, .p .mov, [.t 1]⟩,
    ⟨1, some 22, none, .p .mov, [.t 8]⟩,
    ⟨2, some 23, none, .p (.bin .quo), [.t 22, .c (.int .i64 4)]⟩,
    ⟨3, some 24, none, .p (.bin .mul), [.t 23, .c (.int .i64 2)]⟩,
    ⟨4, some 25, none, .p (.bin .add), [.t 21, .t 24]⟩,
    ⟨5, some 11, none, .p .mov, [.t 25]⟩])
   (.seq (.reg 0 [⟨0, some 26, none, .p .mov, [.t 1]⟩,
    ⟨1, some 27, none, .p .mov, [.t 8]⟩,
    ⟨2, some 28, none, .p (.bin .quo), [.t 27, .c (.int .i64 4)]⟩,
    ⟨3, some 29, none, .p (.bin .mul), [.t 28, .c (.int .i64 3)]⟩,
    ⟨4, some 30, none, .p (.bin .add), [.t 26, .t 29]⟩,
    ⟨5, some 12, none, .p .mov, [.t 30]⟩])
   (.seq (.seq (.reg 0 [⟨0, some 31, none, .p .mov, [.t 8]⟩,
    ⟨1, some 32, none, .p (.bin .geq), [.t 31, .c (.int .i64 8)]⟩])
   (.cond (.t 32) (.seq (.seq (.reg 0 [⟨0, some 33, none, .p .mov, [.t 8]⟩,
    ⟨1, some 34, none, .p (.bin .geq), [.t 33, .c (.int .i64 50)]⟩])
   (.cond (.t 34) (.seq (.reg 0 [⟨0, some 35, none, .p .mov, [.t 0]⟩,
    ⟨1, some 36, none, .p .mov, [.t 10]⟩,
    ⟨2, some 37, none, .e .call [] [], [.f 432, .t 35, .t 36, .t 9]⟩,
    ⟨3, some 10, none, .p .mov, [.t 37]⟩])
   (.seq (.reg 0 [⟨0, some 38, none, .p .mov, [.t 0]⟩,
    ⟨1, some 39, none, .p .mov, [.t 11]⟩,
    ⟨2, some 40, none, .e .call [] [], [.f 432, .t 38, .t 39, .t 9]⟩,
    ⟨3, some 11, none, .p .mov, [.t 40]⟩])
   (.reg 0 [⟨0, some 41, none, .p .mov, [.t 0]⟩,
    ⟨1, some 42, none, .p .mov, [.t 12]⟩,
    ⟨2, some 43, none, .e .call [] [], [.f 432, .t 41, .t 42, .t 9]⟩,
    ⟨3, some 12, none, .p .mov, [.t 43]⟩])))
   (.skip)))
   (.reg 0 [⟨0, some 44, none, .p .mov, [.t 0]⟩,
    ⟨1, some 45, none, .p .mov, [.t 10]⟩,
    ⟨2, some 46, none, .p .mov, [.t 11]⟩,
    ⟨3, some 47, none, .p .mov, [.t 12]⟩,
    ⟨4, some 48, none, .e .call [] [], [.f 433, .t 44, .t 45, .t 46, .t 47, .t 9]⟩,
    ⟨5, some 11, none, .p .mov, [.t 48]⟩]))
   (.skip)))
   (.seq (.reg 0 [⟨0, some 49, none, .r (.load false 1) false, [.t 9]⟩])
   (.block 0 (.seq (.reg 0 [⟨0, some 52, none, .p (.bin .eql), [.t 49, .c (.int .i64 0)]⟩,
    ⟨1, some 51, none, .p .mov, [.t 52]⟩])
   (.cond (.t 51) (.seq (.reg 0 [⟨0, some 53, none, .p .mov, [.t 11]⟩,
    ⟨1, some 6, none, .p .mov, [.t 53]⟩,
    ⟨2, some 7, none, .p .mov, [.c (.int .i64 1)]⟩])
   (.ret))
   (.seq (.reg 0 [⟨0, some 55, none, .p (.bin .eql), [.t 49, .c (.int .i64 12)]⟩,
    ⟨1, some 54, none, .p .mov, [.t 55]⟩])
   (.cond (.t 54) (.seq (.reg 0 [⟨0, some 56, none, .p .mov, [.t 11]⟩,
    ⟨1, some 6, none, .p .mov, [.t 56]⟩,
    ⟨2, some 7, none, .p .mov, [.c (.int .i64 2)]⟩])
   (.ret))
   (.seq (.reg 0 [⟨0, some 50, none, .p .mov, [.t 11]⟩,
    ⟨1, some 6, none, .p .mov, [.t 50]⟩,
    ⟨2, some 7, none, .p .mov, [.c (.int .i64 0)]⟩])
   (.ret)))))))))))))),
  [.tmp 6, .tmp 7]⟩
/- slices.reverseRangeOrdered[int] -/
def g420_0 : GL.Code := .seq (.seq (.reg 0 [⟨0, some 11, none, .p .mov, [.t 6]⟩,
    ⟨1, some 12, none, .p .mov, [.t 7]⟩,
    ⟨2, some 13, none, .p (.bin .lss), [.t 11, .t 12]⟩])
   (.cond (.t 13) (.skip)
   (.exit 0)))
   (.block 1 (.seq (.reg 0 [⟨0, some 14, none, .p .mov, [.t 0]⟩,
    ⟨1, some 15, none, .p .mov, [.t 6]⟩,
    ⟨2, some 16, none, .p .mov, [.t 0]⟩,
    ⟨3, some 17, none, .p .mov, [.t 7]⟩,
    ⟨4, some 18, none, .p .mov, [.t 0]⟩,
    ⟨5, some 19, none, .p .mov, [.t 7]⟩,
    ⟨6, some 20, none, .p (.idx 1), [.t 18, .t 19]⟩,
    ⟨7, some 21, none, .r (.load false 1) false, [.t 20]⟩,
    ⟨8, some 22, none, .p .mov, [.t 0]⟩,
    ⟨9, some 23, none, .p .mov, [.t 6]⟩,
    ⟨10, some 24, none, .p (.idx 1), [.t 22, .t 23]⟩,
    ⟨11, some 25, none, .r (.load false 1) false, [.t 24]⟩,
    ⟨12, some 26, none, .p (.idx 1), [.t 14, .t 15]⟩,
    ⟨13, none, none, .e (.store 1) [] [], [.t 26, .t 21]⟩,
    ⟨14, some 27, none, .p (.idx 1), [.t 16, .t 17]⟩,
    ⟨15, none, none, .e (.store 1) [] [], [.t 27, .t 25]⟩])
   (.seq (.reg 0 [⟨0, some 28, none, .p .mov, [.t 6]⟩,
    ⟨1, some 29, none, .p (.bin .add), [.t 28, .c (.int .i64 1)]⟩,
    ⟨2, some 6, none, .p .mov, [.t 29]⟩])
   (.reg 0 [⟨0, some 30, none, .p .mov, [.t 7]⟩,
    ⟨1, some 31, none, .p (.bin .sub), [.t 30, .c (.int .i64 1)]⟩,
    ⟨2, some 7, none, .p .mov, [.t 31]⟩]))))
def g420 : GL.Fn := ⟨.seq (.reg 0 [⟨0, some 8, none, .p .mov, [.t 1]⟩,
    ⟨1, some 6, none, .p .mov, [.t 8]⟩])
   (.seq (.reg 0 [⟨0, some 9, none, .p .mov, [.t 2]⟩,
    ⟨1, some 10, none, .p (.bin .sub), [.t 9, .c (.int .i64 1)]⟩,
    ⟨2, some 7, none, .p .mov, [.t 10]⟩])
   (.block 0 (.loop g420_0))),
  []⟩
/- slices.partialInsertionSortOrdered[int] -/
def g421_0 : GL.Code := .seq (.seq (.reg 0 [⟨0, some 17, none, .p .mov, [.t 7]⟩,
    ⟨1, some 18, none, .p .mov, [.t 2]⟩,
    ⟨2, some 19, none, .p (.bin .lss), [.t 17, .t 18]⟩,
    ⟨3, some 20, none, .p .mov, [.t 19]⟩,
    ⟨4, some 21, some (20, true), .p .mov, [.t 0]⟩,
    ⟨5, some 22, some (20, true), .p .mov, [.t 7]⟩,
    ⟨6, some 23, some (20, true), .p (.idx 1), [.t 21, .t 22]⟩,
    ⟨7, some 24, some (20, true), .r (.load false 1) false, [.t 23]⟩,
    ⟨8, some 25, some (20, true), .p .mov, [.t 0]⟩,
    ⟨9, some 26, some (20, true), .p .mov, [.t 7]⟩,
    ⟨10, some 27, some (20, true), .p (.bin .sub), [.t 26, .c (.int .i64 1)]⟩,
    ⟨11, some 28, some (20, true), .p (.idx 1), [.t 25, .t 27]⟩,
    ⟨12, some 29, some (20, true), .r (.load false 1) false, [.t 28]⟩,
    ⟨13, some 30, some (20, true), .e .call [] [], [.f 422, .t 24, .t 29]⟩,
    ⟨14, some 31, some (20, true), .p (.un .not), [.t 30]⟩,
    ⟨15, some 32, none, .p .pick, [.t 20, .t 31, .c (.bool false)]⟩])
   (.cond (.t 32) (.skip)
   (.exit 2)))
   (.block 3 (.reg 0 [⟨0, some 33, none, .p .mov, [.t 7]⟩,
    ⟨1, some 34, none, .p (.bin .add), [.t 33, .c (.int .i64 1)]⟩,
    ⟨2, some 7, none, .p .mov, [.t 34]⟩]))
def g421_1 : GL.Code := .seq (.seq (.reg 0 [⟨0, some 64, none, .p .mov, [.t 9]⟩,
    ⟨1, some 65, none, .p (.bin .geq), [.t 64, .c (.int .i64 1)]⟩])
   (.cond (.t 65) (.skip)
   (.exit 4)))
   (.seq (.block 5 (.seq (.seq (.reg 0 [⟨0, some 68, none, .p .mov, [.t 0]⟩,
    ⟨1, some 69, none, .p .mov, [.t 9]⟩,
    ⟨2, some 70, none, .p (.idx 1), [.t 68, .t 69]⟩,
    ⟨3, some 71, none, .r (.load false 1) false, [.t 70]⟩,
    ⟨4, some 72, none, .p .mov, [.t 0]⟩,
    ⟨5, some 73, none, .p .mov, [.t 9]⟩,
    ⟨6, some 74, none, .p (.bin .sub), [.t 73, .c (.int .i64 1)]⟩,
    ⟨7, some 75, none, .p (.idx 1), [.t 72, .t 74]⟩,
    ⟨8, some 76, none, .r (.load false 1) false, [.t 75]⟩,
    ⟨9, some 77, none, .e .call [] [], [.f 422, .t 71, .t 76]⟩,
    ⟨10, some 78, none, .p (.un .not), [.t 77]⟩])
   (.cond (.t 78) (.exit 4)
   (.skip)))
   (.reg 0 [⟨0, some 79, none, .p .mov, [.t 0]⟩,
    ⟨1, some 80, none, .p .mov, [.t 9]⟩,
    ⟨2, some 81, none, .p .mov, [.t 0]⟩,
    ⟨3, some 82, none, .p .mov, [.t 9]⟩,
    ⟨4, some 83, none, .p (.bin .sub), [.t 82, .c (.int .i64 1)]⟩,
    ⟨5, some 84, none, .p .mov, [.t 0]⟩,
    ⟨6, some 85, none, .p .mov, [.t 9]⟩,
    ⟨7, some 86, none, .p (.bin .sub), [.t 85, .c (.int .i64 1)]⟩,
    ⟨8, some 87, none, .p (.idx 1), [.t 84, .t 86]⟩,
    ⟨9, some 88, none, .r (.load false 1) false, [.t 87]⟩,
    ⟨10, some 89, none, .p .mov, [.t 0]⟩,
    ⟨11, some 90, none, .p .mov, [.t 9]⟩,
    ⟨12, some 91, none, .p (.idx 1), [.t 89, .t 90]⟩,
    ⟨13, some 92, none, .r (.load false 1) false, [.t 91]⟩,
    ⟨14, some 93, none, .p (.idx 1), [.t 79, .t 80]⟩,
    ⟨15, none, none, .e (.store 1) [] [], [.t 93, .t 88]⟩,
    ⟨16, some 94, none, .p (.idx 1), [.t 81, .t 83]⟩,
    ⟨17, none, none, .e (.store 1) [] [], [.t 94, .t 92]⟩])))
   (.reg 0 [⟨0, some 66, none, .p .mov, [.t 9]⟩,
    ⟨1, some 67, none, .p (.bin .sub), [.t 66, .c (.int .i64 1)]⟩,
    ⟨2, some 9, none, .p .mov, [.t 67]⟩]))
def g421_2 : GL.Code := .seq (.seq (.reg 0 [⟨0, some 101, none, .p .mov, [.t 10]⟩,
    ⟨1, some 102, none, .p .mov, [.t 2]⟩,
    ⟨2, some 103, none, .p (.bin .lss), [.t 101, .t 102]⟩])
   (.cond (.t 103) (.skip)
   (.exit 6)))
   (.seq (.block 7 (.seq (.seq (.reg 0 [⟨0, some 106, none, .p .mov, [.t 0]⟩,
    ⟨1, some 107, none, .p .mov, [.t 10]⟩,
    ⟨2, some 108, none, .p (.idx 1), [.t 106, .t 107]⟩,
    ⟨3, some 109, none, .r (.load false 1) false, [.t 108]⟩,
    ⟨4, some 110, none, .p .mov, [.t 0]⟩,
    ⟨5, some 111, none, .p .mov, [.t 10]⟩,
    ⟨6, some 112, none, .p (.bin .sub), [.t 111, .c (.int .i64 1)]⟩,
    ⟨7, some 113, none, .p (.idx 1), [.t 110, .t 112]⟩,
    ⟨8, some 114, none, .r (.load false 1) false, [.t 113]⟩,
    ⟨9, some 115, none, .e .call [] [], [.f 422, .t 109, .t 114]⟩,
    ⟨10, some 116, none, .p (.un .not), [.t 115]⟩])
   (.cond (.t 116) (.exit 6)
   (.skip)))
   (.reg 0 [⟨0, some 117, none, .p .mov, [.t 0]⟩,
    ⟨1, some 118, none, .p .mov, [.t 10]⟩,
    ⟨2, some 119, none, .p .mov, [.t 0]⟩,
    ⟨3, some 120, none, .p .mov, [.t 10]⟩,
    ⟨4, some 121, none, .p (.bin .sub), [.t 120, .c (.int .i64 1)]⟩,
    ⟨5, some 122, none, .p .mov, [.t 0]⟩,
    ⟨6, some 123, none, .p .mov, [.t 10]⟩,
    ⟨7, some 124, none, .p (.bin .sub), [.t 123, .c (.int .i64 1)]⟩,
    ⟨8, some 125, none, .p (.idx 1), [.t 122, .t 124]⟩,
    ⟨9, some 126, none, .r (.load false 1) false, [.t 125]⟩,
    ⟨10, some 127, none, .p .mov, [.t 0]⟩,
    ⟨11, some 128, none, .p .mov, [.t 10]⟩,
    ⟨12, some 129, none, .p (.idx 1), [.t 127, .t 128]⟩,
    ⟨13, some 130, none, .r (.load false 1) false, [.t 129]⟩,
    ⟨14, some 131, none, .p (.idx 1), [.t 117, .t 118]⟩,
    ⟨15, none, none, .e (.store 1) [] [], [.t 131, .t 126]⟩,
    ⟨16, some 132, none, .p (.idx 1), [.t 119, .t 121]⟩,
    ⟨17, none, none, .e (.store 1) [] [], [.t 132, .t 130]⟩])))
   (.reg 0 [⟨0, some 104, none, .p .mov, [.t 10]⟩,
    ⟨1, some 105, none, .p (.bin .add), [.t 104, .c (.int .i64 1)]⟩,
    ⟨2, some 10, none, .p .mov, [.t 105]⟩]))
def g421_3 : GL.Code := .seq (.seq (.reg 0 [⟨0, some 13, none, .p .mov, [.t 8]⟩,
    ⟨1, some 14, none, .p (.bin .lss), [.t 13, .c (.int .i64 5)]⟩])
   (.cond (.t 14) (.skip)
   (.exit 0)))
   (.seq (.block 1 (.seq (.block 2 (.loop g421_0))
   (.seq (.seq (.reg 0 [⟨0, some 35, none, .p .mov, [.t 7]⟩,
    ⟨1, some 36, none, .p .mov, [.t 2]⟩,
    ⟨2, some 37, none, .p (.bin .eql), [.t 35, .t 36]⟩])
   (.cond (.t 37) (.seq (.reg 0 [⟨0, some 6, none, .p .mov, [.c (.bool true)]⟩])
   (.ret))
   (.skip)))
   (.seq (.seq (.reg 0 [⟨0, some 38, none, .p .mov, [.t 2]⟩,
    ⟨1, some 39, none, .p .mov, [.t 1]⟩,
    ⟨2, some 40, none, .p (.bin .sub), [.t 38, .t 39]⟩,
    ⟨3, some 41, none, .p (.bin .lss), [.t 40, .c (.int .i64 50)]⟩])
   (.cond (.t 41) (.seq (.reg 0 [⟨0, some 6, none, .p .mov, [.c (.bool false)]⟩])
   (.ret))
   (.skip)))
   (.seq (.reg 0 [⟨0, some 42, none, .p .mov, [.t 0]⟩,
    ⟨1, some 43, none, .p .mov, [.t 7]⟩,
    ⟨2, some 44, none, .p .mov, [.t 0]⟩,
    ⟨3, some 45, none, .p .mov, [.t 7]⟩,
    ⟨4, some 46, none, .p (.bin .sub), [.t 45, .c (.int .i64 1)]⟩,
    ⟨5, some 47, none, .p .mov, [.t 0]⟩,
    ⟨6, some 48, none, .p .mov, [.t 7]⟩,
    ⟨7, some 49, none, .p (.bin .sub), [.t 48, .c (.int .i64 1)]⟩,
    ⟨8, some 50, none, .p (.idx 1), [.t 47, .t 49]⟩,
    ⟨9, some 51, none, .r (.load false 1) false, [.t 50]⟩,
    ⟨10, some 52, none, .p .mov, [.t 0]⟩,
    ⟨11, some 53, none, .p .mov, [.t 7]⟩,
    ⟨12, some 54, none, .p (.idx 1), [.t 52, .t 53]⟩,
    ⟨13, some 55, none, .r (.load false 1) false, [.t 54]⟩,
    ⟨14, some 56, none, .p (.idx 1), [.t 42, .t 43]⟩,
    ⟨15, none, none, .e (.store 1) [] [], [.t 56, .t 51]⟩,
    ⟨16, some 57, none, .p (.idx 1), [.t 44, .t 46]⟩,
    ⟨17, none, none, .e (.store 1) [] [], [.t 57, .t 55]⟩])
   (.seq (.seq (.reg 0 [⟨0, some 58, none, .p .mov, [.t 7]⟩,
    ⟨1, some 59, none, .p .mov, [.t 1]⟩,
    ⟨2, some 60, none, .p (.bin .sub), [.t 58, .t 59]⟩,
    ⟨3, some 61, none, .p (.bin .geq), [.t 60, .c (.int .i64 2)]⟩])
   (.cond (.t 61) (.seq (.reg 0 [⟨0, some 62, none, .p .mov, [.t 7]⟩,
    ⟨1, some 63, none, .p (.bin .sub), [.t 62, .c (.int .i64 1)]⟩,
    ⟨2, some 9, none, .p .mov, [.t 63]⟩])
   (.block 4 (.loop g421_1)))
   (.skip)))
   (.seq (.reg 0 [⟨0, some 95, none, .p .mov, [.t 2]⟩,
    ⟨1, some 96, none, .p .mov, [.t 7]⟩,
    ⟨2, some 97, none, .p (.bin .sub), [.t 95, .t 96]⟩,
    ⟨3, some 98, none, .p (.bin .geq), [.t 97, .c (.int .i64 2)]⟩])
   (.cond (.t 98) (.seq (.reg 0 [⟨0, some 99, none, .p .mov, [.t 7]⟩,
    ⟨1, some 100, none, .p (.bin .add), [.t 99, .c (.int .i64 1)]⟩,
    ⟨2, some 10, none, .p .mov, [.t 100]⟩])
   (.block 6 (.loop g421_2)))
   (.skip)))))))))
   (.reg 0 [⟨0, some 15, none, .p .mov, [.t 8]⟩,
    ⟨1, some 16, none, .p (.bin .add), [.t 15, .c (.int .i64 1)]⟩,
    ⟨2, some 8, none, .p .mov, [.t 16]⟩]))
def g421 : GL.Fn := ⟨.seq (.reg 0 [⟨0, some 6, none, .p .mov, [.c (.bool false)]⟩])
   (.seq (.reg 0 [⟨0, some 11, none, .p .mov, [.t 1]⟩,
    ⟨1, some 12, none, .p (.bin .add), [.t 11, .c (.int .i64 1)]⟩,
    ⟨2, some 7, none, .p .mov, [.t 12]⟩])
   (.seq (.seq (.reg 0 [⟨0, some 8, none, .p .mov, [.c (.int .i64 0)]⟩])
   (.block 0 (.loop g421_3)))
   (.seq (.reg 0 [⟨0, some 6, none, .p .mov, [.c (.bool false)]⟩])
   (.ret)))),
  [.tmp 6]⟩
/- cmp.Less[int] -/
def g422 : GL.Fn := ⟨.seq (.reg 0 [⟨0, some 4, none, .p .mov, [.c (.bool false)]⟩])
   (.seq (.reg 0 [⟨0, some 5, none, .p .mov, [.t 0]⟩,
    ⟨1, some 6, none, .e .call [] [], [.f 160, .t 5]⟩,
    ⟨2, some 7, none, .p .mov, [.t 6]⟩,
    ⟨3, some 8, some (7, true), .p .mov, [.t 1]⟩,
    ⟨4, some 9, some (7, true), .e .call [] [], [.f 160, .t 8]⟩,
    ⟨5, some 10, some (7, true), .p (.un .not), [.t 9]⟩,
    ⟨6, some 11, none, .p .pick, [.t 7, .t 10, .c (.bool false)]⟩,
    ⟨7, some 12, none, .p .mov, [.t 11]⟩,
    ⟨8, some 13, some (12, false), .p .mov, [.t 0]⟩,
    ⟨9, some 14, some (12, false), .p .mov, [.t 1]⟩,
    ⟨10, some 15, some (12, false), .p (.bin .lss), [.t 13, .t 14]⟩,
    ⟨11, some 16, none, .p .pick, [.t 12, .c (.bool true), .t 15]⟩,
    ⟨12, some 4, none, .p .mov, [.t 16]⟩])
   (.ret)),
  [.tmp 4]⟩
/- slices.partitionEqualOrdered[int] -/
def g423_0 : GL.Code := .seq (.seq (.reg 0 [⟨0, some 29, none, .p .mov, [.t 9]⟩,
    ⟨1, some 30, none, .p .mov, [.t 10]⟩,
    ⟨2, some 31, none, .p (.bin .leq), [.t 29, .t 30]⟩,
    ⟨3, some 32, none, .p .mov, [.t 31]⟩,
    ⟨4, some 33, some (32, true), .p .mov, [.t 0]⟩,
    ⟨5, some 34, some (32, true), .p .mov, [.t 1]⟩,
    ⟨6, some 35, some (32, true), .p (.idx 1), [.t 33, .t 34]⟩,
    ⟨7, some 36, some (32, true), .r (.load false 1) false, [.t 35]⟩,
    ⟨8, some 37, some (32, true), .p .mov, [.t 0]⟩,
    ⟨9, some 38, some (32, true), .p .mov, [.t 9]⟩,
    ⟨10, some 39, some (32, true), .p (.idx 1), [.t 37, .t 38]⟩,
    ⟨11, some 40, some (32, true), .r (.load false 1) false, [.t 39]⟩,
    ⟨12, some 41, some (32, true), .e .call [] [], [.f 422, .t 36, .t 40]⟩,
    ⟨13, some 42, some (32, true), .p (.un .not), [.t 41]⟩,
    ⟨14, some 43, none, .p .pick, [.t 32, .t 42, .c (.bool false)]⟩])
   (.cond (.t 43) (.skip)
   (.exit 2)))
   (.block 3 (.reg 0 [⟨0, some 44, none, .p .mov, [.t 9]⟩,
    ⟨1, some 45, none, .p (.bin .add), [.t 44, .c (.int .i64 1)]⟩,
    ⟨2, some 9, none, .p .mov, [.t 45]⟩]))
def g423_1 : GL.Code := .seq (.seq (.reg 0 [⟨0, some 46, none, .p .mov, [.t 9]⟩,
    ⟨1, some 47, none, .p .mov, [.t 10]⟩,
    ⟨2, some 48, none, .p (.bin .leq), [.t 46, .t 47]⟩,
    ⟨3, some 49, none, .p .mov, [.t 48]⟩,
    ⟨4, some 50, some (49, true), .p .mov, [.t 0]⟩,
    ⟨5, some 51, some (49, true), .p .mov, [.t 1]⟩,
    ⟨6, some 52, some (49, true), .p (.idx 1), [.t 50, .t 51]⟩,
    ⟨7, some 53, some (49, true), .r (.load false 1) false, [.t 52]⟩,
    ⟨8, some 54, some (49, true), .p .mov, [.t 0]⟩,
    ⟨9, some 55, some (49, true), .p .mov, [.t 10]⟩,
    ⟨10, some 56, some (49, true), .p (.idx 1), [.t 54, .t 55]⟩,
    ⟨11, some 57, some (49, true), .r (.load false 1) false, [.t 56]⟩,
    ⟨12, some 58, some (49, true), .e .call [] [], [.f 422, .t 53, .t 57]⟩,
    ⟨13, some 59, none, .p .pick, [.t 49, .t 58, .c (.bool false)]⟩])
   (.cond (.t 59) (.skip)
   (.exit 4)))
   (.block 5 (.reg 0 [⟨0, some 60, none, .p .mov, [.t 10]⟩,
    ⟨1, some 61, none, .p (.bin .sub), [.t 60, .c (.int .i64 1)]⟩,
    ⟨2, some 10, none, .p .mov, [.t 61]⟩]))
def g423_2 : GL.Code := .block 1 (.seq (.block 2 (.loop g423_0))
   (.seq (.block 4 (.loop g423_1))
   (.seq (.seq (.reg 0 [⟨0, some 62, none, .p .mov, [.t 9]⟩,
    ⟨1, some 63, none, .p .mov, [.t 10]⟩,
    ⟨2, some 64, none, .p (.bin .gtr), [.t 62, .t 63]⟩])
   (.cond (.t 64) (.exit 0)
   (.skip)))
   (.seq (.reg 0 [⟨0, some 65, none, .p .mov, [.t 0]⟩,
    ⟨1, some 66, none, .p .mov, [.t 9]⟩,
    ⟨2, some 67, none, .p .mov, [.t 0]⟩,
    ⟨3, some 68, none, .p .mov, [.t 10]⟩,
    ⟨4, some 69, none, .p .mov, [.t 0]⟩,
    ⟨5, some 70, none, .p .mov, [.t 10]⟩,
    ⟨6, some 71, none, .p (.idx 1), [.t 69, .t 70]⟩,
    ⟨7, some 72, none, .r (.load false 1) false, [.t 71]⟩,
    ⟨8, some 73, none, .p .mov, [.t 0]⟩,
    ⟨9, some 74, none, .p .mov, [.t 9]⟩,
    ⟨10, some 75, none, .p (.idx 1), [.t 73, .t 74]⟩,
    ⟨11, some 76, none, .r (.load false 1) false, [.t 75]⟩,
    ⟨12, some 77, none, .p (.idx 1), [.t 65, .t 66]⟩,
    ⟨13, none, none, .e (.store 1) [] [], [.t 77, .t 72]⟩,
    ⟨14, some 78, none, .p (.idx 1), [.t 67, .t 68]⟩,
    ⟨15, none, none, .e (.store 1) [] [], [.t 78, .t 76]⟩])
   (.seq (.reg 0 [⟨0, some 79, none, .p .mov, [.t 9]⟩,
    ⟨1, some 80, none, .p (.bin .add), [.t 79, .c (.int .i64 1)]⟩,
    ⟨2, some 9, none, .p .mov, [.t 80]⟩])
   (.reg 0 [⟨0, some 81, none, .p .mov, [.t 10]⟩,
    ⟨1, some 82, none, .p (.bin .sub), [.t 81, .c (.int .i64 1)]⟩,
    ⟨2, some 10, none, .p .mov, [.t 82]⟩]))))))
def g423 : GL.Fn := ⟨.seq (.reg 0 [⟨0, some 8, none, .p .mov, [.c (.int .i64 0)]⟩])
   (.seq (.reg 0 [⟨0, some 11, none, .p .mov, [.t 0]⟩,
    ⟨1, some 12, none, .p .mov, [.t 1]⟩,
    ⟨2, some 13, none, .p .mov, [.t 0]⟩,
    ⟨3, some 14, none, .p .mov, [.t 3]⟩,
    ⟨4, some 15, none, .p .mov, [.t 0]⟩,
    ⟨5, some 16, none, .p .mov, [.t 3]⟩,
    ⟨6, some 17, none, .p (.idx 1), [.t 15, .t 16]⟩,
    ⟨7, some 18, none, .r (.load false 1) false, [.t 17]⟩,
    ⟨8, some 19, none, .p .mov, [.t 0]⟩,
    ⟨9, some 20, none, .p .mov, [.t 1]⟩,
    ⟨10, some 21, none, .p (.idx 1), [.t 19, .t 20]⟩,
    ⟨11, some 22, none, .r (.load false 1) false, [.t 21]⟩,
    ⟨12, some 23, none, .p (.idx 1), [.t 11, .t 12]⟩,
    ⟨13, none, none, .e (.store 1) [] [], [.t 23, .t 18]⟩,
    ⟨14, some 24, none, .p (.idx 1), [.t 13, .t 14]⟩,
    ⟨15, none, none, .e (.store 1) [] [], [.t 24, .t 22]⟩])
   (.seq (.reg 0 [⟨0, some 25, none, .p .mov, [.t 1]⟩,
    ⟨1, some 26, none, .p (.bin .add), [.t 25, .c (.int .i64 1)]⟩,
    ⟨2, some 27, none, .p .mov, [.t 2]⟩,
    ⟨3, some 28, none, .p (.bin .sub), [.t 27, .c (.int .i64 1)]⟩,
    ⟨4, some 9, none, .p .mov, [.t 26]⟩,
    ⟨5, some 10, none, .p .mov, [.t 28]⟩])
   (.seq (.block 0 (.loop g423_2))
   (.seq (.reg 0 [⟨0, some 83, none, .p .mov, [.t 9]⟩,
    ⟨1, some 8, none, .p .mov, [.t 83]⟩])
   (.ret))))),
  [.tmp 8]⟩
/- slices.partitionOrdered[int] -/
def g424_0 : GL.Code := .seq (.seq (.reg 0 [⟨0, some 30, none, .p .mov, [.t 10]⟩,
    ⟨1, some 31, none, .p .mov, [.t 11]⟩,
    ⟨2, some 32, none, .p (.bin .leq), [.t 30, .t 31]⟩,
    ⟨3, some 33, none, .p .mov, [.t 32]⟩,
    ⟨4, some 34, some (33, true), .p .mov, [.t 0]⟩,
    ⟨5, some 35, some (33, true), .p .mov, [.t 10]⟩,
    ⟨6, some 36, some (33, true), .p (.idx 1), [.t 34, .t 35]⟩,
    ⟨7, some 37, some (33, true), .r (.load false 1) false, [.t 36]⟩,
    ⟨8, some 38, some (33, true), .p .mov, [.t 0]⟩,
    ⟨9, some 39, some (33, true), .p .mov, [.t 1]⟩,
    ⟨10, some 40, some (33, true), .p (.idx 1), [.t 38, .t 39]⟩,
    ⟨11, some 41, some (33, true), .r (.load false 1) false, [.t 40]⟩,
    ⟨12, some 42, some (33, true), .e .call [] [], [.f 422, .t 37, .t 41]⟩,
    ⟨13, some 43, none, .p .pick, [.t 33, .t 42, .c (.bool false)]⟩])
   (.cond (.t 43) (.skip)
   (.exit 0)))
   (.block 1 (.reg 0 [⟨0, some 44, none, .p .mov, [.t 10]⟩,
    ⟨1, some 45, none, .p (.bin .add), [.t 44, .c (.int .i64 1)]⟩,
    ⟨2, some 10, none, .p .mov, [.t 45]⟩]))
def g424_1 : GL.Code := .seq (.seq (.reg 0 [⟨0, some 46, none, .p .mov, [.t 10]⟩,
    ⟨1, some 47, none, .p .mov, [.t 11]⟩,
    ⟨2, some 48, none, .p (.bin .leq), [.t 46, .t 47]⟩,
    ⟨3, some 49, none, .p .mov, [.t 48]⟩,
    ⟨4, some 50, some (49, true), .p .mov, [.t 0]⟩,
    ⟨5, some 51, some (49, true), .p .mov, [.t 11]⟩,
    ⟨6, some 52, some (49, true), .p (.idx 1), [.t 50, .t 51]⟩,
    ⟨7, some 53, some (49, true), .r (.load false 1) false, [.t 52]⟩,
    ⟨8, some 54, some (49, true), .p .mov, [.t 0]⟩,
    ⟨9, some 55, some (49, true), .p .mov, [.t 1]⟩,
    ⟨10, some 56, some (49, true), .p (.idx 1), [.t 54, .t 55]⟩,
    ⟨11, some 57, some (49, true), .r (.load false 1) false, [.t 56]⟩,
    ⟨12, some 58, some (49, true), .e .call [] [], [.f 422, .t 53, .t 57]⟩,
    ⟨13, some 59, some (49, true), .p (.un .not), [.t 58]⟩,
    ⟨14, some 60, none, .p .pick, [.t 49, .t 59, .c (.bool false)]⟩])
   (.cond (.t 60) (.skip)
   (.exit 2)))
   (.block 3 (.reg 0 [⟨0, some 61, none, .p .mov, [.t 11]⟩,
    ⟨1, some 62, none, .p (.bin .sub), [.t 61, .c (.int .i64 1)]⟩,
    ⟨2, some 11, none, .p .mov, [.t 62]⟩]))
def g424_2 : GL.Code := .seq (.seq (.reg 0 [⟨0, some 99, none, .p .mov, [.t 10]⟩,
    ⟨1, some 100, none, .p .mov, [.t 11]⟩,
    ⟨2, some 101, none, .p (.bin .leq), [.t 99, .t 100]⟩,
    ⟨3, some 102, none, .p .mov, [.t 101]⟩,
    ⟨4, some 103, some (102, true), .p .mov, [.t 0]⟩,
    ⟨5, some 104, some (102, true), .p .mov, [.t 10]⟩,
    ⟨6, some 105, some (102, true), .p (.idx 1), [.t 103, .t 104]⟩,
    ⟨7, some 106, some (102, true), .r (.load false 1) false, [.t 105]⟩,
    ⟨8, some 107, some (102, true), .p .mov, [.t 0]⟩,
    ⟨9, some 108, some (102, true), .p .mov, [.t 1]⟩,
    ⟨10, some 109, some (102, true), .p (.idx 1), [.t 107, .t 108]⟩,
    ⟨11, some 110, some (102, true), .r (.load false 1) false, [.t 109]⟩,
    ⟨12, some 111, some (102, true), .e .call [] [], [.f 422, .t 106, .t 110]⟩,
    ⟨13, some 112, none, .p .pick, [.t 102, .t 111, .c (.bool false)]⟩])
   (.cond (.t 112) (.skip)
   (.exit 6)))
   (.block 7 (.reg 0 [⟨0, some 113, none, .p .mov, [.t 10]⟩,
    ⟨1, some 114, none, .p (.bin .add), [.t 113, .c (.int .i64 1)]⟩,
    ⟨2, some 10, none, .p .mov, [.t 114]⟩]))
def g424_3 : GL.Code := .seq (.seq (.reg 0 [⟨0, some 115, none, .p .mov, [.t 10]⟩,
    ⟨1, some 116, none, .p .mov, [.t 11]⟩,
    ⟨2, some 117, none, .p (.bin .leq), [.t 115, .t 116]⟩,
    ⟨3, some 118, none, .p .mov, [.t 117]⟩,
    ⟨4, some 119, some (118, true), .p .mov, [.t 0]⟩,
    ⟨5, some 120, some (118, true), .p .mov, [.t 11]⟩,
    ⟨6, some 121, some (118, true), .p (.idx 1), [.t 119, .t 120]⟩,
    ⟨7, some 122, some (118, true), .r (.load false 1) false, [.t 121]⟩,
    ⟨8, some 123, some (118, true), .p .mov, [.t 0]⟩,
    ⟨9, some 124, some (118, true), .p .mov, [.t 1]⟩,
    ⟨10, some 125, some (118, true), .p (.idx 1), [.t 123, .t 124]⟩,
    ⟨11, some 126, some (118, true), .r (.load false 1) false, [.t 125]⟩,
    ⟨12, some 127, some (118, true), .e .call [] [], [.f 422, .t 122, .t 126]⟩,
    ⟨13, some 128, some (118, true), .p (.un .not), [.t 127]⟩,
    ⟨14, some 129, none, .p .pick, [.t 118, .t 128, .c (.bool false)]⟩])
   (.cond (.t 129) (.skip)
   (.exit 8)))
   (.block 9 (.reg 0 [⟨0, some 130, none, .p .mov, [.t 11]⟩,
    ⟨1, some 131, none, .p (.bin .sub), [.t 130, .c (.int .i64 1)]⟩,
    ⟨2, some 11, none, .p .mov, [.t 131]⟩]))
def g424_4 : GL.Code := .block 5 (.seq (.block 6 (.loop g424_2))
   (.seq (.block 8 (.loop g424_3))
   (.seq (.seq (.reg 0 [⟨0, some 132, none, .p .mov, [.t 10]⟩,
    ⟨1, some 133, none, .p .mov, [.t 11]⟩,
    ⟨2, some 134, none, .p (.bin .gtr), [.t 132, .t 133]⟩])
   (.cond (.t 134) (.exit 4)
   (.skip)))
   (.seq (.reg 0 [⟨0, some 135, none, .p .mov, [.t 0]⟩,
    ⟨1, some 136, none, .p .mov, [.t 10]⟩,
    ⟨2, some 137, none, .p .mov, [.t 0]⟩,
    ⟨3, some 138, none, .p .mov, [.t 11]⟩,
    ⟨4, some 139, none, .p .mov, [.t 0]⟩,
    ⟨5, some 140, none, .p .mov, [.t 11]⟩,
    ⟨6, some 141, none, .p (.idx 1), [.t 139, .t 140]⟩,
    ⟨7, some 142, none, .r (.load false 1) false, [.t 141]⟩,
    ⟨8, some 143, none, .p .mov, [.t 0]⟩,
    ⟨9, some 144, none, .p .mov, [.t 10]⟩,
    ⟨10, some 145, none, .p (.idx 1), [.t 143, .t 144]⟩,
    ⟨11, some 146, none, .r (.load false 1) false, [.t 145]⟩,
    ⟨12, some 147, none, .p (.idx 1), [.t 135, .t 136]⟩,
    ⟨13, none, none, .e (.store 1) [] [], [.t 147, .t 142]⟩,
    ⟨14, some 148, none, .p (.idx 1), [.t 137, .t 138]⟩,
    ⟨15, none, none, .e (.store 1) [] [], [.t 148, .t 146]⟩])
   (.seq (.reg 0 [⟨0, some 149, none, .p .mov, [.t 10]⟩,
    ⟨1, some 150, none, .p (.bin .add), [.t 149, .c (.int .i64 1)]⟩,
    ⟨2, some 10, none, .p .mov, [.t 150]⟩])
   (.reg 0 [⟨0, some 151, none, .p .mov, [.t 11]⟩,
    ⟨1, some 152, none, .p (.bin .sub), [.t 151, .c (.int .i64 1)]⟩,
    ⟨2, some 11, none, .p .mov, [.t 152]⟩]))))))
def g424 : GL.Fn := ⟨.seq (.reg 0 [⟨0, some 8, none, .p .mov, [.c (.int .i64 0)]⟩,
    ⟨1, some 9, none, .p .mov, [.c (.bool false)]⟩])
   (.seq (.reg 0 [⟨0, some 12, none, .p .mov, [.t 0]⟩,
    ⟨1, some 13, none, .p .mov, [.t 1]⟩,
    ⟨2, some 14, none, .p .mov, [.t 0]⟩,
    ⟨3, some 15, none, .p .mov, [.t 3]⟩,
    ⟨4, some 16, none, .p .mov, [.t 0]⟩,
    ⟨5, some 17, none, .p .mov, [.t 3]⟩,
    ⟨6, some 18, none, .p (.idx 1), [.t 16, .t 17]⟩,
    ⟨7, some 19, none, .r (.load false 1) false, [.t 18]⟩,
    ⟨8, some 20, none, .p .mov, [.t 0]⟩,
    ⟨9, some 21, none, .p .mov, [.t 1]⟩,
    ⟨10, some 22, none, .p (.idx 1), [.t 20, .t 21]⟩,
    ⟨11, some 23, none, .r (.load false 1) false, [.t 22]⟩,
    ⟨12, some 24, none, .p (.idx 1), [.t 12, .t 13]⟩,
    ⟨13, none, none, .e (.store 1) [] [], [.t 24, .t 19]⟩,
    ⟨14, some 25, none, .p (.idx 1), [.t 14, .t 15]⟩,
    ⟨15, none, none, .e (.store 1) [] [], [.t 25, .t 23]⟩])
   (.seq (.reg 0 [⟨0, some 26, none, .p .mov, [.t 1]⟩,
    ⟨1, some 27, none, .p (.bin .add), [.t 26, .c (.int .i64 1)]⟩,
    ⟨2, some 28, none, .p .mov, [.t 2]⟩,
    ⟨3, some 29, none, .p (.bin .sub), [.t 28, .c (.int .i64 1)]⟩,
    ⟨4, some 10, none, .p .mov, [.t 27]⟩,
    ⟨5, some 11, none, .p .mov, [.t 29]⟩])
   (.seq (.block 0 (.loop g424_0))
   (.seq (.block 2 (.loop g424_1))
   (.seq (.seq (.reg 0 [⟨0, some 63, none, .p .mov, [.t 10]⟩,
    ⟨1, some 64, none, .p .mov, [.t 11]⟩,
    ⟨2, some 65, none, .p (.bin .gtr), [.t 63, .t 64]⟩])
   (.cond (.t 65) (.seq (.reg 0 [⟨0, some 66, none, .p .mov, [.t 0]⟩,
    ⟨1, some 67, none, .p .mov, [.t 11]⟩,
    ⟨2, some 68, none, .p .mov, [.t 0]⟩,
    ⟨3, some 69, none, .p .mov, [.t 1]⟩,
    ⟨4, some 70, none, .p .mov, [.t 0]⟩,
    ⟨5, some 71, none, .p .mov, [.t 1]⟩,
    ⟨6, some 72, none, .p (.idx 1), [.t 70, .t 71]⟩,
    ⟨7, some 73, none, .r (.load false 1) false, [.t 72]⟩,
    ⟨8, some 74, none, .p .mov, [.t 0]⟩,
    ⟨9, some 75, none, .p .mov, [.t 11]⟩,
    ⟨10, some 76, none, .p (.idx 1), [.t 74, .t 75]⟩,
    ⟨11, some 77, none, .r (.load false 1) false, [.t 76]⟩,
    ⟨12, some 78, none, .p (.idx 1), [.t 66, .t 67]⟩,
    ⟨13, none, none, .e (.store 1) [] [], [.t 78, .t 73]⟩,
    ⟨14, some 79, none, .p (.idx 1), [.t 68, .t 69]⟩,
    ⟨15, none, none, .e (.store 1) [] [], [.t 79, .t 77]⟩])
   (.seq (.reg 0 [⟨0, some 80, none, .p .mov, [.t 11]⟩,
    ⟨1, some 8, none, .p .mov, [.t 80]⟩,
    ⟨2, some 9, none, .p .mov, [.c (.bool true)]⟩])
   (.ret)))
   (.skip)))
   (.seq (.reg 0 [⟨0, some 81, none, .p .mov, [.t 0]⟩,
    ⟨1, some 82, none, .p .mov, [.t 10]⟩,
    ⟨2, some 83, none, .p .mov, [.t 0]⟩,
    ⟨3, some 84, none, .p .mov, [.t 11]⟩,
    ⟨4, some 85, none, .p .mov, [.t 0]⟩,
    ⟨5, some 86, none, .p .mov, [.t 11]⟩,
    ⟨6, some 87, none, .p (.idx 1), [.t 85, .t 86]⟩,
    ⟨7, some 88, none, .r (.load false 1) false, [.t 87]⟩,
    ⟨8, some 89, none, .p .mov, [.t 0]⟩,
    ⟨9, some 90, none, .p .mov, [.t 10]⟩,
    ⟨10, some 91, none, .p (.idx 1), [.t 89, .t 90]⟩,
    ⟨11, some 92, none, .r (.load false 1) false, [.t 91]⟩,
    ⟨12, some 93, none, .p (.idx 1), [.t 81, .t 82]⟩,
    ⟨13, none, none, .e (.store 1) [] [], [.t 93, .t 88]⟩,
    ⟨14, some 94, none, .p (.idx 1), [.t 83, .t 84]⟩,
    ⟨15, none, none, .e (.store 1) [] [], [.t 94, .t 92]⟩])
   (.seq (.reg 0 [⟨0, some 95, none, .p .mov, [.t 10]⟩,
    ⟨1, some 96, none, .p (.bin .add), [.t 95, .c (.int .i64 1)]⟩,
    ⟨2, some 10, none, .p .mov, [.t 96]⟩])
   (.seq (.reg 0 [⟨0, some 97, none, .p .mov, [.t 11]⟩,
    ⟨1, some 98, none, .p (.bin .sub), [.t 97, .c (.int .i64 1)]⟩,
    ⟨2, some 11, none, .p .mov, [.t 98]⟩])
   (.seq (.block 4 (.loop g424_4))
   (.seq (.reg 0 [⟨0, some 153, none, .p .mov, [.t 0]⟩,
    ⟨1, some 154, none, .p .mov, [.t 11]⟩,
    ⟨2, some 155, none, .p .mov, [.t 0]⟩,
    ⟨3, some 156, none, .p .mov, [.t 1]⟩,
    ⟨4, some 157, none, .p .mov, [.t 0]⟩,
    ⟨5, some 158, none, .p .mov, [.t 1]⟩,
    ⟨6, some 159, none, .p (.idx 1), [.t 157, .t 158]⟩,
    ⟨7, some 160, none, .r (.load false 1) false, [.t 159]⟩,
    ⟨8, some 161, none, .p .mov, [.t 0]⟩,
    ⟨9, some 162, none, .p .mov, [.t 11]⟩,
    ⟨10, some 163, none, .p (.idx 1), [.t 161, .t 162]⟩,
    ⟨11, some 164, none, .r (.load false 1) false, [.t 163]⟩,
    ⟨12, some 165, none, .p (.idx 1), [.t 153, .t 154]⟩,
    ⟨13, none, none, .e (.store 1) [] [], [.t 165, .t 160]⟩,
    ⟨14, some 166, none, .p (.idx 1), [.t 155, .t 156]⟩,
    ⟨15, none, none, .e (.store 1) [] [], [.t 166, .t 164]⟩])
   (.seq (.reg 0 [⟨0, some 167, none, .p .mov, [.t 11]⟩,
    ⟨1, some 8, none, .p .mov, [.t 167]⟩,
    ⟨2, some 9, none, .p .mov, [.c (.bool false)]⟩])
   (.ret)))))))))))),
  [.tmp 8, .tmp 9]⟩
/- math/bits.Len32 -/
def g170 : GL.Fn := ⟨.seq (.reg 0 [⟨0, some 2, none, .p .mov, [.c (.int .i64 0)]⟩])
   (.seq (.seq (.reg 0 [⟨0, some 3, none, .p .mov, [.t 0]⟩,
    ⟨1, some 4, none, .p (.bin .geq), [.t 3, .c (.int .u32 65536)]⟩])
   (.cond (.t 4) (.seq (.reg 0 [⟨0, some 5, none, .p .mov, [.t 0]⟩,
    ⟨1, some 6, none, .p (.bin .shr), [.t 5, .c (.int .u64 16)]⟩,
    ⟨2, some 0, none, .p .mov, [.t 6]⟩])
   (.reg 0 [⟨0, some 2, none, .p .mov, [.c (.int .i64 16)]⟩]))
   (.skip)))
   (.seq (.seq (.reg 0 [⟨0, some 7, none, .p .mov, [.t 0]⟩,
    ⟨1, some 8, none, .p (.bin .geq), [.t 7, .c (.int .u32 256)]⟩])
   (.cond (.t 8) (.seq (.reg 0 [⟨0, some 9, none, .p .mov, [.t 0]⟩,
    ⟨1, some 10, none, .p (.bin .shr), [.t 9, .c (.int .u64 8)]⟩,
    ⟨2, some 0, none, .p .mov, [.t 10]⟩])
   (.reg 0 [⟨0, some 11, none, .p .mov, [.t 2]⟩,
    ⟨1, some 12, none, .p (.bin .add), [.t 11, .c (.int .i64 8)]⟩,
    ⟨2, some 2, none, .p .mov, [.t 12]⟩]))
   (.skip)))
   (.seq (.reg 0 [⟨0, some 13, none, .p .mov, [.t 2]⟩,
    ⟨1, some 14, none, .p .mov, [.t 0]⟩,
    ⟨2, some 15, none, .p (.conv .u8), [.t 14]⟩,
    ⟨3, some 16, none, .p .bad, []⟩,
    ⟨4, some 17, none, .p (.conv .i64), [.t 16]⟩,
    ⟨5, some 18, none, .p (.bin .add), [.t 13, .t 17]⟩,
    ⟨6, some 2, none, .p .mov, [.t 18]⟩])
   (.ret)))),
  [.tmp 2]⟩
/- slices.siftDownOrdered[int] -/
def g431_0 : GL.Code := .block 1 (.seq (.reg 0 [⟨0, some 11, none, .p .mov, [.t 8]⟩,
    ⟨1, some 12, none, .p (.bin .mul), [.c (.int .i64 2), .t 11]⟩,
    ⟨2, some 13, none, .p (.bin .add), [.t 12, .c (.int .i64 1)]⟩,
    ⟨3, some 9, none, .p .mov, [.t 13]⟩])
   (.seq (.seq (.reg 0 [⟨0, some 14, none, .p .mov, [.t 9]⟩,
    ⟨1, some 15, none, .p .mov, [.t 2]⟩,
    ⟨2, some 16, none, .p (.bin .geq), [.t 14, .t 15]⟩])
   (.cond (.t 16) (.exit 0)
   (.skip)))
   (.seq (.seq (.reg 0 [⟨0, some 17, none, .p .mov, [.t 9]⟩,
    ⟨1, some 18, none, .p (.bin .add), [.t 17, .c (.int .i64 1)]⟩,
    ⟨2, some 19, none, .p .mov, [.t 2]⟩,
    ⟨3, some 20, none, .p (.bin .lss), [.t 18, .t 19]⟩,
    ⟨4, some 21, none, .p .mov, [.t 20]⟩,
    ⟨5, some 22, some (21, true), .p .mov, [.t 0]⟩,
    ⟨6, some 23, some (21, true), .p .mov, [.t 3]⟩,
    ⟨7, some 24, some (21, true), .p .mov, [.t 9]⟩,
    ⟨8, some 25, some (21, true), .p (.bin .add), [.t 23, .t 24]⟩,
    ⟨9, some 26, some (21, true), .p (.idx 1), [.t 22, .t 25]⟩,
    ⟨10, some 27, some (21, true), .r (.load false 1) false, [.t 26]⟩,
    ⟨11, some 28, some (21, true), .p .mov, [.t 0]⟩,
    ⟨12, some 29, some (21, true), .p .mov, [.t 3]⟩,
    ⟨13, some 30, some (21, true), .p .mov, [.t 9]⟩,
    ⟨14, some 31, some (21, true), .p (.bin .add), [.t 29, .t 30]⟩,
    ⟨15, some 32, some (21, true), .p (.bin .add), [.t 31, .c (.int .i64 1)]⟩,
    ⟨16, some 33, some (21, true), .p (.idx 1), [.t 28, .t 32]⟩,
    ⟨17, some 34, some (21, true), .r (.load false 1) false, [.t 33]⟩,
    ⟨18, some 35, some (21, true), .e .call [] [], [.f 422, .t 27, .t 34]⟩,
    ⟨19, some 36, none, .p .pick, [.t 21, .t 35, .c (.bool false)]⟩])
   (.cond (.t 36) (.reg 0 [⟨0, some 37, none, .p .mov, [.t 9]⟩,
    ⟨1, some 38, none, .p (.bin .add), [.t 37, .c (.int .i64 1)]⟩,
    ⟨2, some 9, none, .p .mov, [.t 38]⟩])
   (.skip)))
   (.seq (.seq (.reg 0 [⟨0, some 39, none, .p .mov, [.t 0]⟩,
    ⟨1, some 40, none, .p .mov, [.t 3]⟩,
    ⟨2, some 41, none, .p .mov, [.t 8]⟩,
    ⟨3, some 42, none, .p (.bin .add), [.t 40, .t 41]⟩,
    ⟨4, some 43, none, .p (.idx 1), [.t 39, .t 42]⟩,
    ⟨5, some 44, none, .r (.load false 1) false, [.t 43]⟩,
    ⟨6, some 45, none, .p .mov, [.t 0]⟩,
    ⟨7, some 46, none, .p .mov, [.t 3]⟩,
    ⟨8, some 47, none, .p .mov, [.t 9]⟩,
    ⟨9, some 48, none, .p (.bin .add), [.t 46, .t 47]⟩,
    ⟨10, some 49, none, .p (.idx 1), [.t 45, .t 48]⟩,
    ⟨11, some 50, none, .r (.load false 1) false, [.t 49]⟩,
    ⟨12, some 51, none, .e .call [] [], [.f 422, .t 44, .t 50]⟩,
    ⟨13, some 52, none, .p (.un .not), [.t 51]⟩])
   (.cond (.t 52) (.ret)
   (.skip)))
   (.seq (.reg 0 [⟨0, some 53, none, .p .mov, [.t 0]⟩,
    ⟨1, some 54, none, .p .mov, [.t 3]⟩,
    ⟨2, some 55, none, .p .mov, [.t 8]⟩,
    ⟨3, some 56, none, .p (.bin .add), [.t 54, .t 55]⟩,
    ⟨4, some 57, none, .p .mov, [.t 0]⟩,
    ⟨5, some 58, none, .p .mov, [.t 3]⟩,
    ⟨6, some 59, none, .p .mov, [.t 9]⟩,
    ⟨7, some 60, none, .p (.bin .add), [.t 58, .t 59]⟩,
    ⟨8, some 61, none, .p .mov, [.t 0]⟩,
    ⟨9, some 62, none, .p .mov, [.t 3]⟩,
    ⟨10, some 63, none, .p .mov, [.t 9]⟩,
    ⟨11, some 64, none, .p (.bin .add), [.t 62, .t 63]⟩,
    ⟨12, some 65, none, .p (.idx 1), [.t 61, .t 64]⟩,
    ⟨13, some 66, none, .r (.load false 1) false, [.t 65]⟩,
    ⟨14, some 67, none, .p .mov, [.t 0]⟩,
    ⟨15, some 68, none, .p .mov, [.t 3]⟩,
    ⟨16, some 69, none, .p .mov, [.t 8]⟩,
    ⟨17, some 70, none, .p (.bin .add), [.t 68, .t 69]⟩,
    ⟨18, some 71, none, .p (.idx 1), [.t 67, .t 70]⟩,
    ⟨19, some 72, none, .r (.load false 1) false, [.t 71]⟩,
    ⟨20, some 73, none, .p (.idx 1), [.t 53, .t 56]⟩,
    ⟨21, none, none, .e (.store 1) [] [], [.t 73, .t 66]⟩,
    ⟨22, some 74, none, .p (.idx 1), [.t 57, .t 60]⟩,
    ⟨23, none, none, .e (.store 1) [] [], [.t 74, .t 72]⟩])
   (.reg 0 [⟨0, some 75, none, .p .mov, [.t 9]⟩,
    ⟨1, some 8, none, .p .mov, [.t 75]⟩]))))))
def g431 : GL.Fn := ⟨.seq (.reg 0 [⟨0, some 10, none, .p .mov, [.t 1]⟩,
    ⟨1, some 8, none, .p .mov, [.t 10]⟩])
   (.block 0 (.loop g431_0)),
  []⟩
/- slices.nextPowerOfTwo -/
def g174 : GL.Fn := ⟨.seq (.reg 0 [⟨0, some 2, none, .p .mov, [.c (.int .u64 0)]⟩])
   (.seq (.reg 0 [⟨0, some 3, none, .p .mov, [.t 0]⟩,
    ⟨1, some 4, none, .p (.conv .u64), [.t 3]⟩,
    ⟨2, some 5, none, .e .call [] [], [.f 157, .t 4]⟩,
    ⟨3, some 6, none, .p (.bin .shl), [.c (.int .u64 1), .t 5]⟩,
    ⟨4, some 2, none, .p .mov, [.t 6]⟩])
   (.ret)),
  [.tmp 2]⟩
/- (*slices.xorshift).Next -/
def g175 : GL.Fn := ⟨.seq (.reg 0 [⟨0, some 2, none, .p .mov, [.c (.int .u64 0)]⟩])
   (.seq (.reg 0 [⟨0, some 3, none, .p .mov, [.t 0]⟩,
    ⟨1, some 4, none, .p .nilCheck, [.t 3]⟩,
    ⟨2, some 5, none, .r (.load false 1) false, [.t 4]⟩,
    ⟨3, some 6, none, .p .mov, [.t 0]⟩,
    ⟨4, some 7, none, .p .nilCheck, [.t 6]⟩,
    ⟨5, some 8, none, .r (.load false 1) false, [.t 7]⟩,
    ⟨6, some 9, none, .p (.bin .shl), [.t 8, .c (.int .u64 13)]⟩,
    ⟨7, some 10, none, .p (.bin .xor), [.t 5, .t 9]⟩,
    ⟨8, some 11, none, .p .nilCheck, [.t 3]⟩,
    ⟨9, none, none, .e (.store 1) [] [], [.t 11, .t 10]⟩])
   (.seq (.reg 0 [⟨0, some 12, none, .p .mov, [.t 0]⟩,
    ⟨1, some 13, none, .p .nilCheck, [.t 12]⟩,
    ⟨2, some 14, none, .r (.load false 1) false, [.t 13]⟩,
    ⟨3, some 15, none, .p .mov, [.t 0]⟩,
    ⟨4, some 16, none, .p .nilCheck, [.t 15]⟩,
    ⟨5, some 17, none, .r (.load false 1) false, [.t 16]⟩,
    ⟨6, some 18, none, .p (.bin .shr), [.t 17, .c (.int .u64 7)]⟩,
    ⟨7, some 19, none, .p (.bin .xor), [.t 14, .t 18]⟩,
    ⟨8, some 20, none, .p .nilCheck, [.t 12]⟩,
    ⟨9, none, none, .e (.store 1) [] [], [.t 20, .t 19]⟩])
   (.seq (.reg 0 [⟨0, some 21, none, .p .mov, [.t 0]⟩,
    ⟨1, some 22, none, .p .nilCheck, [.t 21]⟩,
    ⟨2, some 23, none, .r (.load false 1) false, [.t 22]⟩,
    ⟨3, some 24, none, .p .mov, [.t 0]⟩,
    ⟨4, some 25, none, .p .nilCheck, [.t 24]⟩,
    ⟨5, some 26, none, .r (.load false 1) false, [.t 25]⟩,
    ⟨6, some 27, none, .p (.bin .shl), [.t 26, .c (.int .u64 17)]⟩,
    ⟨7, some 28, none, .p (.bin .xor), [.t 23, .t 27]⟩,
    ⟨8, some 29, none, .p .nilCheck, [.t 21]⟩,
    ⟨9, none, none, .e (.store 1) [] [], [.t 29, .t 28]⟩])
   (.seq (.reg 0 [⟨0, some 30, none, .p .mov, [.t 0]⟩,
    ⟨1, some 31, none, .p .nilCheck, [.t 30]⟩,
    ⟨2, some 32, none, .r (.load false 1) false, [.t 31]⟩,
    ⟨3, some 2, none, .p .mov, [.t 32]⟩])
   (.ret))))),
  [.tmp 2]⟩
/- slices.medianAdjacentOrdered[int] -/
def g432 : GL.Fn := ⟨.seq (.reg 0 [⟨0, some 6, none, .p .mov, [.c (.int .i64 0)]⟩])
   (.seq (.reg 0 [⟨0, some 7, none, .p .mov, [.t 0]⟩,
    ⟨1, some 8, none, .p .mov, [.t 1]⟩,
    ⟨2, some 9, none, .p (.bin .sub), [.t 8, .c (.int .i64 1)]⟩,
    ⟨3, some 10, none, .p .mov, [.t 1]⟩,
    ⟨4, some 11, none, .p .mov, [.t 1]⟩,
    ⟨5, some 12, none, .p (.bin .add), [.t 11, .c (.int .i64 1)]⟩,
    ⟨6, some 13, none, .p .mov, [.t 2]⟩,
    ⟨7, some 14, none, .e .call [] [], [.f 433, .t 7, .t 9, .t 10, .t 12, .t 13]⟩,
    ⟨8, some 6, none, .p .mov, [.t 14]⟩])
   (.ret)),
  [.tmp 6]⟩
/- slices.medianOrdered[int] -/
def g433 : GL.Fn := ⟨.seq (.reg 0 [⟨0, some 10, none, .p .mov, [.c (.int .i64 0)]⟩])
   (.seq (.reg 0 [⟨0, some 12, none, .p .mov, [.t 0]⟩,
    ⟨1, some 13, none, .p .mov, [.t 1]⟩,
    ⟨2, some 14, none, .p .mov, [.t 2]⟩,
    ⟨3, some 15, none, .p .mov, [.t 4]⟩,
    ⟨4, some 16, none, .e .call [] [], [.f 437, .t 12, .t 13, .t 14, .t 15]⟩,
    ⟨5, some 11, none, .p .mov, [.t 16]⟩,
    ⟨6, some 17, none, .p (.extract 0), [.t 11]⟩,
    ⟨7, some 18, none, .p (.extract 1), [.t 11]⟩,
    ⟨8, some 1, none, .p .mov, [.t 17]⟩,
    ⟨9, some 2, none, .p .mov, [.t 18]⟩])
   (.seq (.reg 0 [⟨0, some 20, none, .p .mov, [.t 0]⟩,
    ⟨1, some 21, none, .p .mov, [.t 2]⟩,
    ⟨2, some 22, none, .p .mov, [.t 3]⟩,
    ⟨3, some 23, none, .p .mov, [.t 4]⟩,
    ⟨4, some 24, none, .e .call [] [], [.f 437, .t 20, .t 21, .t 22, .t 23]⟩,
    ⟨5, some 19, none, .p .mov, [.t 24]⟩,
    ⟨6, some 25, none, .p (.extract 0), [.t 19]⟩,
    ⟨7, some 26, none, .p (.extract 1), [.t 19]⟩,
    ⟨8, some 2, none, .p .mov, [.t 25]⟩,
    ⟨9, some 3, none, .p .mov, [.t 26]⟩])
   (.seq (.reg 0 [⟨0, some 28, none, .p .mov, [.t 0]⟩,
    ⟨1, some 29, none, .p .mov, [.t 1]⟩,
    ⟨2, some 30, none, .p .mov, [.t 2]⟩,
    ⟨3, some 31, none, .p .mov, [.t 4]⟩,
    ⟨4, some 32, none, .e .call [] [], [.f 437, .t 28, .t 29, .t 30, .t 31]⟩,
    ⟨5, some 27, none, .p .mov, [.t 32]⟩,
    ⟨6, some 33, none, .p (.extract 0), [.t 27]⟩,
    ⟨7, some 34, none, .p (.extract 1), [.t 27]⟩,
    ⟨8, some 1, none, .p .mov, [.t 33]⟩,
    ⟨9, some 2, none, .p .mov, [.t 34]⟩])
   (.seq (.reg 0 [⟨0, some 35, none, .p .mov, [.t 2]⟩,
    ⟨1, some 10, none, .p .mov, [.t 35]⟩])
   (.ret))))),
  [.tmp 10]⟩
/- cmp.isNaN[int] -/
def g160 : GL.Fn := ⟨.seq (.reg 0 [⟨0, some 2, none, .p .mov, [.c (.bool false)]⟩])
   (.seq (.reg 0 [⟨0, some 3, none, .p .mov, [.t 0]⟩,
    ⟨1, some 4, none, .p .mov, [.t 0]⟩,
    ⟨2, some 5, none, .p (.bin .neq), [.t 3, .t 4]⟩,
    ⟨3, some 2, none, .p .mov, [.t 5]⟩])
   (.ret)),
  [.tmp 2]⟩
/- slices.order2Ordered[int] -/
def g437 : GL.Fn := ⟨.seq (.reg 0 [⟨0, some 8, none, .p .mov, [.c (.int .i64 0)]⟩,
    ⟨1, some 9, none, .p .mov, [.c (.int .i64 0)]⟩])
   (.seq (.seq (.reg 0 [⟨0, some 10, none, .p .mov, [.t 0]⟩,
    ⟨1, some 11, none, .p .mov, [.t 2]⟩,
    ⟨2, some 12, none, .p (.idx 1), [.t 10, .t 11]⟩,
    ⟨3, some 13, none, .r (.load false 1) false, [.t 12]⟩,
    ⟨4, some 14, none, .p .mov, [.t 0]⟩,
    ⟨5, some 15, none, .p .mov, [.t 1]⟩,
    ⟨6, some 16, none, .p (.idx 1), [.t 14, .t 15]⟩,
    ⟨7, some 17, none, .r (.load false 1) false, [.t 16]⟩,
    ⟨8, some 18, none, .e .call [] [], [.f 422, .t 13, .t 17]⟩])
   (.cond (.t 18) (.seq (.reg 0 [⟨0, some 19, none, .p .mov, [.t 3]⟩,
    ⟨1, some 20, none, .p .nilCheck, [.t 19]⟩,
    ⟨2, some 21, none, .r (.load false 1) false, [.t 20]⟩,
    ⟨3, some 22, none, .p (.bin .add), [.t 21, .c (.int .i64 1)]⟩,
    ⟨4, some 23, none, .p .nilCheck, [.t 19]⟩,
    ⟨5, none, none, .e (.store 1) [] [], [.t 23, .t 22]⟩])
   (.seq (.reg 0 [⟨0, some 24, none, .p .mov, [.t 2]⟩,
    ⟨1, some 25, none, .p .mov, [.t 1]⟩,
    ⟨2, some 8, none, .p .mov, [.t 24]⟩,
    ⟨3, some 9, none, .p .mov, [.t 25]⟩])
   (.ret)))
   (.skip)))
   (.seq (.reg 0 [⟨0, some 26, none, .p .mov, [.t 1]⟩,
    ⟨1, some 27, none, .p .mov, [.t 2]⟩,
    ⟨2, some 8, none, .p .mov, [.t 26]⟩,
    ⟨3, some 9, none, .p .mov, [.t 27]⟩])
   (.ret))),
  [.tmp 8, .tmp 9]⟩
end GL
