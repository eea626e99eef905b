/- The abstract code of the functions that the laws reach beyond what awake reaches, printed by program. -/
import Derived.Test.YtgjabmfdlbmioaaGreatDoorCode
set_option linter.unusedSimpArgs false
set_option linter.unusedVariables false
set_option maxRecDepth 100000
namespace Ago
/-- datakit/automaton.Accepts -/
def ac236 : AFn :=
  { nt := 29, res := [.tmp 4], body :=
    (.seq (.ops [⟨(some 2), .new (.box 1), [.t 0], none⟩,
      ⟨(some 4), .pure .move, [.c (.bool false)], none⟩])
    (.seq (.seq (.ops [⟨(some 7), .read (.load (some 1)), [.t 2], none⟩,
      ⟨(some 8), .pcall 231, [.t 7], none⟩,
      ⟨(some 9), .pure (.un .not), [.t 8], none⟩])
    (.cond (.t 9)
      (.seq (.ops [⟨(some 4), .pure .move, [.c (.bool false)], none⟩])
      .ret)
      .skip))
    (.seq (.ops [⟨(some 5), .pure .move, [.c (.int .i64 0)], none⟩])
    (.seq (.seq (.ops [⟨(some 10), .pure .move, [.t 1], none⟩,
      ⟨(some 11), .pure .lenS, [.t 10], none⟩,
      ⟨(some 12), .pure .move, [.c (.int .i64 0)], none⟩])
    (.block 0
      (.loop [1, 2, 5, 11, 12]
        (.seq (.ops [⟨(some 13), .pure (.bin .lss), [.t 12, .t 11], none⟩])
        (.seq (.cond (.t 13)
          .skip
          (.exit 0))
        (.seq (.block 1
          (.seq (.ops [⟨(some 14), .pure .move, [.t 12], none⟩,
            ⟨(some 6), .pure .move, [.t 14], none⟩])
          (.ops [⟨(some 15), .read (.load (some 1)), [.t 2], none⟩,
            ⟨(some 16), .pure .move, [.t 5], none⟩,
            ⟨(some 17), .pure .move, [.t 1], none⟩,
            ⟨(some 18), .pure .move, [.t 6], none⟩,
            ⟨(some 19), .pure .idxStr, [.t 17, .t 18], none⟩,
            ⟨(some 20), .pure (.conv .i64), [.t 19], none⟩,
            ⟨(some 21), .pcall 252, [.t 15, .t 16, .t 20], none⟩,
            ⟨(some 5), .pure .move, [.t 21], none⟩])))
        (.ops [⟨(some 22), .pure (.bin .add), [.t 12, .c (.int .i64 1)], none⟩,
          ⟨(some 12), .pure .move, [.t 22], none⟩])))))))
    (.seq (.ops [⟨(some 23), .pure (.faddr 0), [.t 2], none⟩,
      ⟨(some 24), .read (.load none), [.t 23], none⟩,
      ⟨(some 25), .pure .move, [.t 5], none⟩,
      ⟨(some 26), .pure (.iaddrS 2), [.t 24, .t 25], none⟩,
      ⟨(some 27), .pure (.faddr 0), [.t 26], none⟩,
      ⟨(some 28), .read (.load none), [.t 27], none⟩,
      ⟨(some 4), .pure .move, [.t 28], none⟩])
    .ret))))) }
/-- datakit/datakitlaw16.AutomatonValids -/
def ac312 : AFn :=
  { nt := 31, res := [.tmp 4], body :=
    (.seq (.ops [⟨(some 2), .new (.box 1), [.t 0], none⟩,
      ⟨(some 4), .pure .move, [.c (.bool false)], none⟩])
    (.seq (.seq (.ops [⟨(some 5), .read (.load (some 1)), [.t 2], none⟩,
      ⟨(some 6), .pcall 317, [.t 5, .c (.int .i64 1100)], none⟩,
      ⟨(some 7), .pure (.un .not), [.t 6], none⟩,
      ⟨(some 8), .pure .move, [.t 7], none⟩,
      ⟨(some 9), .pure .move, [.t 1], some (8, false)⟩,
      ⟨(some 10), .pure .lenS, [.t 9], some (8, false)⟩,
      ⟨(some 11), .pure (.bin .gtr), [.t 10, .c (.int .i64 100)], some (8, false)⟩,
      ⟨(some 12), .pure .pick, [.t 8, .c (.bool true), .t 11], none⟩])
    (.cond (.t 12)
      (.seq (.ops [⟨(some 13), .pcall 318, [], none⟩,
        ⟨(some 4), .pure .move, [.t 13], none⟩])
      .ret)
      .skip))
    (.seq (.ops [⟨(some 14), .read (.load (some 1)), [.t 2], none⟩,
      ⟨(some 15), .pcall 231, [.t 14], none⟩,
      ⟨(some 16), .read (.load (some 1)), [.t 2], none⟩,
      ⟨(some 17), .pcall 326, [.t 16], none⟩,
      ⟨(some 18), .pure (.eqB false), [.t 15, .t 17], none⟩,
      ⟨(some 19), .pure .move, [.t 18], none⟩,
      ⟨(some 20), .read (.load (some 1)), [.t 2], some (19, true)⟩,
      ⟨(some 21), .pure .move, [.t 1], some (19, true)⟩,
      ⟨(some 22), .pcall 236, [.t 20, .t 21], some (19, true)⟩,
      ⟨(some 23), .read (.load (some 1)), [.t 2], some (19, true)⟩,
      ⟨(some 24), .pure .move, [.t 1], some (19, true)⟩,
      ⟨(some 25), .pcall 327, [.t 23, .t 24], some (19, true)⟩,
      ⟨(some 26), .pure (.eqB false), [.t 22, .t 25], some (19, true)⟩,
      ⟨(some 27), .pure .pick, [.t 19, .t 26, .c (.bool false)], none⟩,
      ⟨(some 28), .pure .move, [.t 27], none⟩,
      ⟨(some 29), .pcall 318, [], some (28, true)⟩,
      ⟨(some 30), .pure .pick, [.t 28, .t 29, .c (.bool false)], none⟩,
      ⟨(some 4), .pure .move, [.t 30], none⟩])
    .ret))) }
/-- datakit/datakitlaw16.few -/
def ac317 : AFn :=
  { nt := 26, res := [.tmp 4], body :=
    (.seq (.ops [⟨(some 2), .new (.box 1), [.t 0], none⟩,
      ⟨(some 4), .pure .move, [.c (.bool false)], none⟩])
    (.seq (.seq (.ops [⟨(some 6), .pure (.faddr 0), [.t 2], none⟩,
      ⟨(some 7), .read (.load none), [.t 6], none⟩,
      ⟨(some 8), .pure .lenL, [.t 7], none⟩,
      ⟨(some 9), .pure .move, [.t 1], none⟩,
      ⟨(some 10), .pure (.bin .gtr), [.t 8, .t 9], none⟩])
    (.cond (.t 10)
      (.seq (.ops [⟨(some 4), .pure .move, [.c (.bool false)], none⟩])
      .ret)
      .skip))
    (.seq (.seq (.ops [⟨(some 5), .pure .move, [.c (.int .i64 0)], none⟩])
    (.block 0
      (.loop [2, 5]
        (.seq (.seq (.ops [⟨(some 11), .pure .move, [.t 5], none⟩,
          ⟨(some 12), .pure (.faddr 0), [.t 2], none⟩,
          ⟨(some 13), .read (.load none), [.t 12], none⟩,
          ⟨(some 14), .pure .lenL, [.t 13], none⟩,
          ⟨(some 15), .pure (.bin .lss), [.t 11, .t 14], none⟩])
        (.cond (.t 15)
          .skip
          (.exit 0)))
        (.seq (.block 1
          (.seq (.ops [⟨(some 18), .pure (.faddr 0), [.t 2], none⟩,
            ⟨(some 19), .read (.load none), [.t 18], none⟩,
            ⟨(some 20), .pure .move, [.t 5], none⟩,
            ⟨(some 21), .pure (.iaddrS 2), [.t 19, .t 20], none⟩,
            ⟨(some 22), .pure (.faddr 1), [.t 21], none⟩,
            ⟨(some 23), .read (.load none), [.t 22], none⟩,
            ⟨(some 24), .pure .lenL, [.t 23], none⟩,
            ⟨(some 25), .pure (.bin .gtr), [.t 24, .c (.int .i64 20)], none⟩])
          (.cond (.t 25)
            (.seq (.ops [⟨(some 4), .pure .move, [.c (.bool false)], none⟩])
            .ret)
            .skip)))
        (.ops [⟨(some 16), .pure .move, [.t 5], none⟩,
          ⟨(some 17), .pure (.bin .add), [.t 16, .c (.int .i64 1)], none⟩,
          ⟨(some 5), .pure .move, [.t 17], none⟩]))))))
    (.seq (.ops [⟨(some 4), .pure .move, [.c (.bool true)], none⟩])
    .ret)))) }
/-- datakit/datakitref16.Valid -/
def ac326 : AFn :=
  { nt := 31, res := [.tmp 2], body :=
    (.seq (.ops [⟨(some 1), .new (.box 1), [.t 0], none⟩,
      ⟨(some 2), .pure .move, [.c (.bool false)], none⟩])
    (.seq (.seq (.ops [⟨(some 3), .pure .move, [.c (.int .i64 0)], none⟩])
    (.block 0
      (.loop [1, 3]
        (.seq (.seq (.ops [⟨(some 4), .pure .move, [.t 3], none⟩,
          ⟨(some 5), .pure (.faddr 0), [.t 1], none⟩,
          ⟨(some 6), .read (.load none), [.t 5], none⟩,
          ⟨(some 7), .pure .lenL, [.t 6], none⟩,
          ⟨(some 8), .pure (.bin .lss), [.t 4, .t 7], none⟩])
        (.cond (.t 8)
          .skip
          (.exit 0)))
        (.seq (.block 1
          (.seq (.ops [⟨(some 11), .pure (.faddr 0), [.t 1], none⟩,
            ⟨(some 12), .read (.load none), [.t 11], none⟩,
            ⟨(some 13), .pure .move, [.t 3], none⟩,
            ⟨(some 14), .pure (.iaddrS 2), [.t 12, .t 13], none⟩,
            ⟨(some 15), .read (.load (some 2)), [.t 14], none⟩,
            ⟨(some 16), .pure (.faddr 0), [.t 1], none⟩,
            ⟨(some 17), .read (.load none), [.t 16], none⟩,
            ⟨(some 18), .pure .lenL, [.t 17], none⟩,
            ⟨(some 19), .pcall 350, [.t 15, .t 18], none⟩,
            ⟨(some 20), .pure (.un .not), [.t 19], none⟩])
          (.cond (.t 20)
            (.seq (.ops [⟨(some 2), .pure .move, [.c (.bool false)], none⟩])
            .ret)
            .skip)))
        (.ops [⟨(some 9), .pure .move, [.t 3], none⟩,
          ⟨(some 10), .pure (.bin .add), [.t 9, .c (.int .i64 1)], none⟩,
          ⟨(some 3), .pure .move, [.t 10], none⟩]))))))
    (.seq (.ops [⟨(some 21), .pure (.faddr 0), [.t 1], none⟩,
      ⟨(some 22), .read (.load none), [.t 21], none⟩,
      ⟨(some 23), .pure .lenL, [.t 22], none⟩,
      ⟨(some 24), .pure (.bin .geq), [.t 23, .c (.int .i64 1)], none⟩,
      ⟨(some 25), .pure .move, [.t 24], none⟩,
      ⟨(some 26), .pure (.faddr 0), [.t 1], some (25, true)⟩,
      ⟨(some 27), .read (.load none), [.t 26], some (25, true)⟩,
      ⟨(some 28), .pure .lenL, [.t 27], some (25, true)⟩,
      ⟨(some 29), .pure (.bin .leq), [.t 28, .c (.int .i64 1024)], some (25, true)⟩,
      ⟨(some 30), .pure .pick, [.t 25, .t 29, .c (.bool false)], none⟩,
      ⟨(some 2), .pure .move, [.t 30], none⟩])
    .ret))) }
/-- datakit/datakitref16.Accepts -/
def ac327 : AFn :=
  { nt := 29, res := [.tmp 4], body :=
    (.seq (.ops [⟨(some 2), .new (.box 1), [.t 0], none⟩,
      ⟨(some 4), .pure .move, [.c (.bool false)], none⟩])
    (.seq (.seq (.ops [⟨(some 7), .read (.load (some 1)), [.t 2], none⟩,
      ⟨(some 8), .pcall 326, [.t 7], none⟩,
      ⟨(some 9), .pure (.un .not), [.t 8], none⟩])
    (.cond (.t 9)
      (.seq (.ops [⟨(some 4), .pure .move, [.c (.bool false)], none⟩])
      .ret)
      .skip))
    (.seq (.ops [⟨(some 5), .pure .move, [.c (.int .i64 0)], none⟩])
    (.seq (.seq (.ops [⟨(some 6), .pure .move, [.c (.int .i64 0)], none⟩])
    (.block 0
      (.loop [1, 2, 5, 6]
        (.seq (.seq (.ops [⟨(some 10), .pure .move, [.t 6], none⟩,
          ⟨(some 11), .pure .move, [.t 1], none⟩,
          ⟨(some 12), .pure .lenS, [.t 11], none⟩,
          ⟨(some 13), .pure (.bin .lss), [.t 10, .t 12], none⟩])
        (.cond (.t 13)
          .skip
          (.exit 0)))
        (.seq (.block 1
          (.ops [⟨(some 16), .read (.load (some 1)), [.t 2], none⟩,
            ⟨(some 17), .pure .move, [.t 5], none⟩,
            ⟨(some 18), .pure .move, [.t 1], none⟩,
            ⟨(some 19), .pure .move, [.t 6], none⟩,
            ⟨(some 20), .pure .idxStr, [.t 18, .t 19], none⟩,
            ⟨(some 21), .pure (.conv .i64), [.t 20], none⟩,
            ⟨(some 22), .pcall 351, [.t 16, .t 17, .t 21], none⟩,
            ⟨(some 5), .pure .move, [.t 22], none⟩]))
        (.ops [⟨(some 14), .pure .move, [.t 6], none⟩,
          ⟨(some 15), .pure (.bin .add), [.t 14, .c (.int .i64 1)], none⟩,
          ⟨(some 6), .pure .move, [.t 15], none⟩]))))))
    (.seq (.ops [⟨(some 23), .pure (.faddr 0), [.t 2], none⟩,
      ⟨(some 24), .read (.load none), [.t 23], none⟩,
      ⟨(some 25), .pure .move, [.t 5], none⟩,
      ⟨(some 26), .pure (.iaddrS 2), [.t 24, .t 25], none⟩,
      ⟨(some 27), .pure (.faddr 0), [.t 26], none⟩,
      ⟨(some 28), .read (.load none), [.t 27], none⟩,
      ⟨(some 4), .pure .move, [.t 28], none⟩])
    .ret))))) }
/-- datakit/datakitref16.state -/
def ac350 : AFn :=
  { nt := 52, res := [.tmp 4], body :=
    (.seq (.ops [⟨(some 2), .new (.box 2), [.t 0], none⟩,
      ⟨(some 4), .pure .move, [.c (.bool false)], none⟩])
    (.seq (.ops [⟨(some 5), .pure .move, [.c (.int .i64 0)], none⟩])
    (.seq (.seq (.ops [⟨(some 6), .pure .move, [.c (.int .i64 0)], none⟩])
    (.block 0
      (.loop [1, 2, 5, 6]
        (.seq (.seq (.ops [⟨(some 8), .pure .move, [.t 6], none⟩,
          ⟨(some 9), .pure (.faddr 1), [.t 2], none⟩,
          ⟨(some 10), .read (.load none), [.t 9], none⟩,
          ⟨(some 11), .pure .lenL, [.t 10], none⟩,
          ⟨(some 12), .pure (.bin .lss), [.t 8, .t 11], none⟩])
        (.cond (.t 12)
          .skip
          (.exit 0)))
        (.seq (.block 1
          (.seq (.ops [⟨(some 15), .pure (.faddr 1), [.t 2], none⟩,
            ⟨(some 16), .read (.load none), [.t 15], none⟩,
            ⟨(some 17), .pure .move, [.t 6], none⟩,
            ⟨(some 18), .pure (.iaddrS 3), [.t 16, .t 17], none⟩,
            ⟨(some 19), .read (.load (some 3)), [.t 18], none⟩,
            ⟨(some 7), .new (.new 3 [.agg [.int .i64 0, .int .i64 0, .int .i64 0]]), [], none⟩,
            ⟨none, .eff (.store 3), [.t 7, .t 19], none⟩])
          (.seq (.seq (.ops [⟨(some 20), .pure (.faddr 0), [.t 7], none⟩,
            ⟨(some 21), .read (.load none), [.t 20], none⟩,
            ⟨(some 22), .pure .move, [.t 5], none⟩,
            ⟨(some 23), .pure (.bin .neq), [.t 21, .t 22], none⟩,
            ⟨(some 24), .pure .move, [.t 23], none⟩,
            ⟨(some 25), .pure (.faddr 1), [.t 7], some (24, false)⟩,
            ⟨(some 26), .read (.load none), [.t 25], some (24, false)⟩,
            ⟨(some 27), .pure (.faddr 0), [.t 7], some (24, false)⟩,
            ⟨(some 28), .read (.load none), [.t 27], some (24, false)⟩,
            ⟨(some 29), .pure (.bin .lss), [.t 26, .t 28], some (24, false)⟩,
            ⟨(some 30), .pure .pick, [.t 24, .c (.bool true), .t 29], none⟩,
            ⟨(some 31), .pure .move, [.t 30], none⟩,
            ⟨(some 32), .pure (.faddr 1), [.t 7], some (31, false)⟩,
            ⟨(some 33), .read (.load none), [.t 32], some (31, false)⟩,
            ⟨(some 34), .pure (.bin .gtr), [.t 33, .c (.int .i64 255)], some (31, false)⟩,
            ⟨(some 35), .pure .pick, [.t 31, .c (.bool true), .t 34], none⟩,
            ⟨(some 36), .pure .move, [.t 35], none⟩,
            ⟨(some 37), .pure (.faddr 2), [.t 7], some (36, false)⟩,
            ⟨(some 38), .read (.load none), [.t 37], some (36, false)⟩,
            ⟨(some 39), .pure (.bin .lss), [.t 38, .c (.int .i64 0)], some (36, false)⟩,
            ⟨(some 40), .pure .pick, [.t 36, .c (.bool true), .t 39], none⟩,
            ⟨(some 41), .pure .move, [.t 40], none⟩,
            ⟨(some 42), .pure (.faddr 2), [.t 7], some (41, false)⟩,
            ⟨(some 43), .read (.load none), [.t 42], some (41, false)⟩,
            ⟨(some 44), .pure .move, [.t 1], some (41, false)⟩,
            ⟨(some 45), .pure (.bin .geq), [.t 43, .t 44], some (41, false)⟩,
            ⟨(some 46), .pure .pick, [.t 41, .c (.bool true), .t 45], none⟩])
          (.cond (.t 46)
            (.seq (.ops [⟨(some 4), .pure .move, [.c (.bool false)], none⟩])
            .ret)
            .skip))
          (.ops [⟨(some 47), .pure (.faddr 1), [.t 7], none⟩,
            ⟨(some 48), .read (.load none), [.t 47], none⟩,
            ⟨(some 49), .pure (.bin .add), [.t 48, .c (.int .i64 1)], none⟩,
            ⟨(some 5), .pure .move, [.t 49], none⟩]))))
        (.ops [⟨(some 13), .pure .move, [.t 6], none⟩,
          ⟨(some 14), .pure (.bin .add), [.t 13, .c (.int .i64 1)], none⟩,
          ⟨(some 6), .pure .move, [.t 14], none⟩]))))))
    (.seq (.ops [⟨(some 50), .pure .move, [.t 5], none⟩,
      ⟨(some 51), .pure (.bin .eql), [.t 50, .c (.int .i64 256)], none⟩,
      ⟨(some 4), .pure .move, [.t 51], none⟩])
    .ret)))) }
/-- datakit/datakitref16.Next -/
def ac351 : AFn :=
  { nt := 41, res := [.tmp 6], body :=
    (.seq (.ops [⟨(some 3), .new (.box 1), [.t 0], none⟩,
      ⟨(some 6), .pure .move, [.c (.int .i64 0)], none⟩])
    (.seq (.seq (.ops [⟨(some 7), .pure .move, [.c (.int .i64 0)], none⟩])
    (.block 0
      (.loop [1, 2, 3, 7]
        (.seq (.seq (.ops [⟨(some 9), .pure .move, [.t 7], none⟩,
          ⟨(some 10), .pure (.faddr 0), [.t 3], none⟩,
          ⟨(some 11), .read (.load none), [.t 10], none⟩,
          ⟨(some 12), .pure .move, [.t 1], none⟩,
          ⟨(some 13), .pure (.iaddrS 2), [.t 11, .t 12], none⟩,
          ⟨(some 14), .pure (.faddr 1), [.t 13], none⟩,
          ⟨(some 15), .read (.load none), [.t 14], none⟩,
          ⟨(some 16), .pure .lenL, [.t 15], none⟩,
          ⟨(some 17), .pure (.bin .lss), [.t 9, .t 16], none⟩])
        (.cond (.t 17)
          .skip
          (.exit 0)))
        (.seq (.block 1
          (.seq (.ops [⟨(some 20), .pure (.faddr 0), [.t 3], none⟩,
            ⟨(some 21), .read (.load none), [.t 20], none⟩,
            ⟨(some 22), .pure .move, [.t 1], none⟩,
            ⟨(some 23), .pure (.iaddrS 2), [.t 21, .t 22], none⟩,
            ⟨(some 24), .pure (.faddr 1), [.t 23], none⟩,
            ⟨(some 25), .read (.load none), [.t 24], none⟩,
            ⟨(some 26), .pure .move, [.t 7], none⟩,
            ⟨(some 27), .pure (.iaddrS 3), [.t 25, .t 26], none⟩,
            ⟨(some 28), .read (.load (some 3)), [.t 27], none⟩,
            ⟨(some 8), .new (.new 3 [.agg [.int .i64 0, .int .i64 0, .int .i64 0]]), [], none⟩,
            ⟨none, .eff (.store 3), [.t 8, .t 28], none⟩])
          (.seq (.ops [⟨(some 29), .pure .move, [.t 2], none⟩,
            ⟨(some 30), .pure (.faddr 0), [.t 8], none⟩,
            ⟨(some 31), .read (.load none), [.t 30], none⟩,
            ⟨(some 32), .pure (.bin .geq), [.t 29, .t 31], none⟩,
            ⟨(some 33), .pure .move, [.t 32], none⟩,
            ⟨(some 34), .pure .move, [.t 2], some (33, true)⟩,
            ⟨(some 35), .pure (.faddr 1), [.t 8], some (33, true)⟩,
            ⟨(some 36), .read (.load none), [.t 35], some (33, true)⟩,
            ⟨(some 37), .pure (.bin .leq), [.t 34, .t 36], some (33, true)⟩,
            ⟨(some 38), .pure .pick, [.t 33, .t 37, .c (.bool false)], none⟩])
          (.cond (.t 38)
            (.seq (.ops [⟨(some 39), .pure (.faddr 2), [.t 8], none⟩,
              ⟨(some 40), .read (.load none), [.t 39], none⟩,
              ⟨(some 6), .pure .move, [.t 40], none⟩])
            .ret)
            .skip))))
        (.ops [⟨(some 18), .pure .move, [.t 7], none⟩,
          ⟨(some 19), .pure (.bin .add), [.t 18, .c (.int .i64 1)], none⟩,
          ⟨(some 7), .pure .move, [.t 19], none⟩]))))))
    (.seq (.ops [⟨(some 6), .pure .move, [.c (.int .i64 0)], none⟩])
    .ret))) }
def codeB1 : Nat → Option AFn
  | 236 => some ac236
  | 312 => some ac312
  | 317 => some ac317
  | 326 => some ac326
  | 327 => some ac327
  | 350 => some ac350
  | 351 => some ac351
  | _ => none
def codeB (f : Nat) : Option AFn := match codeA f with
  | some a => some a
  | none => codeB1 f
def CB : Ctx := mkCtx codeB clRA clPA
end Ago
