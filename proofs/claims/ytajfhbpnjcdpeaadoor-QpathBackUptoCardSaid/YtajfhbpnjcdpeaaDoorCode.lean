/- The abstract code of the functions, printed by program. -/
import Derived.Test.YtajfhbpnjcdpeaaDoorMachE
set_option linter.unusedSimpArgs false
set_option linter.unusedVariables false
set_option maxRecDepth 100000
namespace Ago
/-- datakit/qpath.Step -/
def ac7 : AFn :=
  { nt := 32, res := [.cell 2 (some 3), .tmp 3], body :=
    (.seq (.ops [⟨(some 1), .new (.box 13), [.t 0], none⟩,
      ⟨(some 2), .new (.new 3 [.agg [.bool false, .str [], .int .i64 0]]), [], none⟩,
      ⟨(some 3), .pure .move, [.c (.int .i64 0)], none⟩])
    (.seq (.seq (.ops [⟨(some 6), .pure (.faddr 0), [.t 1], none⟩,
      ⟨(some 7), .read (.load none), [.t 6], none⟩])
    (.block 0
      (.seq (.ops [⟨(some 9), .pure (.bin .eql), [.t 7, .c (.int .i64 4)], none⟩,
        ⟨(some 8), .pure .move, [.t 9], none⟩])
      (.cond (.t 8)
        (.seq (.seq (.ops [⟨(some 10), .pure (.faddr 9), [.t 1], none⟩,
          ⟨(some 11), .read (.load none), [.t 10], none⟩,
          ⟨(some 12), .pure .lenS, [.t 11], none⟩,
          ⟨(some 13), .pure (.bin .gtr), [.t 12, .c (.int .i64 1024)], none⟩])
        (.cond (.t 13)
          (.seq (.ops [⟨(some 14), .pure (.build [.bool false, .str [], .int .i64 0] []), [], none⟩,
            ⟨none, .eff (.store 3), [.t 2, .t 14], none⟩,
            ⟨(some 3), .pure .move, [.c (.int .i64 10)], none⟩])
          .ret)
          .skip))
        (.seq (.ops [⟨(some 15), .pure (.faddr 9), [.t 1], none⟩,
          ⟨(some 16), .read (.load none), [.t 15], none⟩,
          ⟨(some 17), .pcall 20, [.t 16], none⟩,
          ⟨none, .eff (.store 3), [.t 2, .t 17], none⟩,
          ⟨(some 3), .pure .move, [.c (.int .i64 0)], none⟩])
        .ret))
        (.seq (.ops [⟨(some 19), .pure (.bin .eql), [.t 7, .c (.int .i64 2)], none⟩,
          ⟨(some 18), .pure .move, [.t 19], none⟩])
        (.cond (.t 18)
          (.seq (.ops [⟨(some 21), .pure (.faddr 2), [.t 1], none⟩,
            ⟨(some 22), .read (.load (some 3)), [.t 21], none⟩,
            ⟨(some 23), .pcall 21, [.t 22], none⟩,
            ⟨(some 20), .pure .move, [.t 23], none⟩,
            ⟨(some 24), .pure (.ext 0), [.t 20], none⟩,
            ⟨(some 25), .pure (.ext 1), [.t 20], none⟩,
            ⟨(some 4), .pure .move, [.t 24], none⟩,
            ⟨(some 5), .pure .move, [.t 25], none⟩])
          (.seq (.seq (.ops [⟨(some 26), .pure .move, [.t 5], none⟩,
            ⟨(some 27), .pure (.un .not), [.t 26], none⟩])
          (.cond (.t 27)
            (.seq (.ops [⟨(some 28), .pure (.build [.bool false, .str [], .int .i64 0] []), [], none⟩,
              ⟨none, .eff (.store 3), [.t 2, .t 28], none⟩,
              ⟨(some 3), .pure .move, [.c (.int .i64 2)], none⟩])
            .ret)
            .skip))
          (.seq (.ops [⟨(some 29), .pure .move, [.t 4], none⟩,
            ⟨(some 30), .pcall 22, [.t 29], none⟩,
            ⟨none, .eff (.store 3), [.t 2, .t 30], none⟩,
            ⟨(some 3), .pure .move, [.c (.int .i64 0)], none⟩])
          .ret)))
          .skip))))))
    (.seq (.ops [⟨(some 31), .pure (.build [.bool false, .str [], .int .i64 0] []), [], none⟩,
      ⟨none, .eff (.store 3), [.t 2, .t 31], none⟩,
      ⟨(some 3), .pure .move, [.c (.int .i64 6)], none⟩])
    .ret))) }
/-- datakit/datakitref39.Step -/
def ac8 : AFn :=
  { nt := 40, res := [.cell 2 (some 3), .tmp 3], body :=
    (.seq (.ops [⟨(some 1), .new (.box 13), [.t 0], none⟩,
      ⟨(some 2), .new (.new 3 [.agg [.bool false, .str [], .int .i64 0]]), [], none⟩,
      ⟨(some 3), .pure .move, [.c (.int .i64 0)], none⟩])
    (.seq (.seq (.ops [⟨(some 6), .pure (.faddr 0), [.t 1], none⟩,
      ⟨(some 7), .read (.load none), [.t 6], none⟩,
      ⟨(some 8), .pure (.bin .eql), [.t 7, .c (.int .i64 4)], none⟩])
    (.cond (.t 8)
      (.seq (.seq (.ops [⟨(some 9), .pure (.faddr 9), [.t 1], none⟩,
        ⟨(some 10), .read (.load none), [.t 9], none⟩,
        ⟨(some 11), .pure .lenS, [.t 10], none⟩,
        ⟨(some 12), .pure (.bin .gtr), [.t 11, .c (.int .i64 1024)], none⟩])
      (.cond (.t 12)
        (.seq (.ops [⟨(some 13), .pure (.build [.bool false, .str [], .int .i64 0] []), [], none⟩,
          ⟨none, .eff (.store 3), [.t 2, .t 13], none⟩,
          ⟨(some 3), .pure .move, [.c (.int .i64 10)], none⟩])
        .ret)
        .skip))
      (.seq (.ops [⟨(some 14), .pure (.faddr 9), [.t 1], none⟩,
        ⟨(some 15), .read (.load none), [.t 14], none⟩,
        ⟨(some 16), .pure (.build [.bool false, .str [], .int .i64 0] [(1, 1)]), [.t 15], none⟩,
        ⟨none, .eff (.store 3), [.t 2, .t 16], none⟩,
        ⟨(some 3), .pure .move, [.c (.int .i64 0)], none⟩])
      .ret))
      .skip))
    (.seq (.seq (.ops [⟨(some 17), .pure (.faddr 0), [.t 1], none⟩,
      ⟨(some 18), .read (.load none), [.t 17], none⟩,
      ⟨(some 19), .pure (.bin .neq), [.t 18, .c (.int .i64 2)], none⟩])
    (.cond (.t 19)
      (.seq (.ops [⟨(some 20), .pure (.build [.bool false, .str [], .int .i64 0] []), [], none⟩,
        ⟨none, .eff (.store 3), [.t 2, .t 20], none⟩,
        ⟨(some 3), .pure .move, [.c (.int .i64 6)], none⟩])
      .ret)
      .skip))
    (.seq (.ops [⟨(some 22), .pure (.faddr 2), [.t 1], none⟩,
      ⟨(some 23), .read (.load (some 3)), [.t 22], none⟩,
      ⟨(some 24), .pcall 23, [.t 23], none⟩,
      ⟨(some 21), .pure .move, [.t 24], none⟩,
      ⟨(some 25), .pure (.ext 0), [.t 21], none⟩,
      ⟨(some 26), .pure (.ext 1), [.t 21], none⟩,
      ⟨(some 4), .pure .move, [.t 25], none⟩,
      ⟨(some 5), .pure .move, [.t 26], none⟩])
    (.seq (.seq (.ops [⟨(some 27), .pure .move, [.t 5], none⟩,
      ⟨(some 28), .pure (.bin .neq), [.t 27, .c (.int .i64 0)], none⟩,
      ⟨(some 29), .pure .move, [.t 28], none⟩,
      ⟨(some 30), .pure .move, [.t 4], some (29, false)⟩,
      ⟨(some 31), .pure (.bin .lss), [.t 30, .c (.int .i64 0)], some (29, false)⟩,
      ⟨(some 32), .pure .pick, [.t 29, .c (.bool true), .t 31], none⟩,
      ⟨(some 33), .pure .move, [.t 32], none⟩,
      ⟨(some 34), .pure .move, [.t 4], some (33, false)⟩,
      ⟨(some 35), .pure (.bin .gtr), [.t 34, .c (.int .i64 65536)], some (33, false)⟩,
      ⟨(some 36), .pure .pick, [.t 33, .c (.bool true), .t 35], none⟩])
    (.cond (.t 36)
      (.seq (.ops [⟨(some 37), .pure (.build [.bool false, .str [], .int .i64 0] []), [], none⟩,
        ⟨none, .eff (.store 3), [.t 2, .t 37], none⟩,
        ⟨(some 3), .pure .move, [.c (.int .i64 2)], none⟩])
      .ret)
      .skip))
    (.seq (.ops [⟨(some 38), .pure .move, [.t 4], none⟩,
      ⟨(some 39), .pure (.build [.bool false, .str [], .int .i64 0] [(0, 1), (2, 1)]), [.c (.bool true), .t 38], none⟩,
      ⟨none, .eff (.store 3), [.t 2, .t 39], none⟩,
      ⟨(some 3), .pure .move, [.c (.int .i64 0)], none⟩])
    .ret)))))) }
/-- datakit/qpath.Path -/
def ac9 : AFn :=
  { nt := 37, res := [.tmp 2, .tmp 3], body :=
    (.seq (.ops [⟨(some 1), .new (.box 13), [.t 0], none⟩,
      ⟨(some 2), .pure .move, [.c (.snil 3)], none⟩,
      ⟨(some 3), .pure .move, [.c (.int .i64 0)], none⟩])
    (.seq (.seq (.ops [⟨(some 9), .pure (.faddr 0), [.t 1], none⟩,
      ⟨(some 10), .read (.load none), [.t 9], none⟩,
      ⟨(some 11), .pure (.bin .neq), [.t 10, .c (.int .i64 6)], none⟩])
    (.cond (.t 11)
      (.seq (.ops [⟨(some 2), .pure .move, [.c (.snil 3)], none⟩,
        ⟨(some 3), .pure .move, [.c (.int .i64 6)], none⟩])
      .ret)
      .skip))
    (.seq (.seq (.ops [⟨(some 12), .pure (.faddr 11), [.t 1], none⟩,
      ⟨(some 13), .read (.load none), [.t 12], none⟩,
      ⟨(some 14), .pure .lenL, [.t 13], none⟩,
      ⟨(some 15), .pure (.bin .gtr), [.t 14, .c (.int .i64 48)], none⟩])
    (.cond (.t 15)
      (.seq (.ops [⟨(some 2), .pure .move, [.c (.snil 3)], none⟩,
        ⟨(some 3), .pure .move, [.c (.int .i64 10)], none⟩])
      .ret)
      .skip))
    (.seq (.ops [⟨(some 4), .pure .move, [.c (.snil 3)], none⟩])
    (.seq (.seq (.ops [⟨(some 16), .pure (.faddr 11), [.t 1], none⟩,
      ⟨(some 17), .read (.load none), [.t 16], none⟩,
      ⟨(some 18), .pure .lenL, [.t 17], none⟩,
      ⟨(some 19), .pure .move, [.c (.int .i64 0)], none⟩])
    (.block 0
      (.loop [4, 17, 18, 19]
        (.seq (.ops [⟨(some 20), .pure (.bin .lss), [.t 19, .t 18], none⟩])
        (.seq (.cond (.t 20)
          .skip
          (.exit 0))
        (.seq (.block 1
          (.seq (.ops [⟨(some 21), .pure (.iaddrS 13), [.t 17, .t 19], none⟩,
            ⟨(some 22), .read (.load (some 13)), [.t 21], none⟩,
            ⟨(some 6), .new (.new 13 [.agg [.int .i64 0, .bool false, .bool false, .str [], .int .i64 0, .int .i64 0, .int .i64 0, .int .i64 0, .int .i64 0, .str [], .snil 1, .snil 13, .snil 14]]), [], none⟩,
            ⟨none, .eff (.store 13), [.t 6, .t 22], none⟩])
          (.seq (.ops [⟨(some 24), .read (.load (some 13)), [.t 6], none⟩,
            ⟨(some 25), .pcall 7, [.t 24], none⟩,
            ⟨(some 23), .pure .move, [.t 25], none⟩,
            ⟨(some 26), .pure (.ext 0), [.t 23], none⟩,
            ⟨(some 27), .pure (.ext 1), [.t 23], none⟩,
            ⟨(some 7), .new (.new 3 [.agg [.bool false, .str [], .int .i64 0]]), [], none⟩,
            ⟨none, .eff (.store 3), [.t 7, .t 26], none⟩,
            ⟨(some 8), .pure .move, [.t 27], none⟩])
          (.seq (.seq (.ops [⟨(some 28), .pure .move, [.t 8], none⟩,
            ⟨(some 29), .pure (.bin .neq), [.t 28, .c (.int .i64 0)], none⟩])
          (.cond (.t 29)
            (.seq (.ops [⟨(some 30), .pure .move, [.t 8], none⟩,
              ⟨(some 2), .pure .move, [.c (.snil 3)], none⟩,
              ⟨(some 3), .pure .move, [.t 30], none⟩])
            .ret)
            .skip))
          (.ops [⟨(some 31), .pure .move, [.t 4], none⟩,
            ⟨(some 32), .read (.load (some 3)), [.t 7], none⟩,
            ⟨(some 33), .new (.buildSlice 3 [.agg [.bool false, .str [], .int .i64 0]] [0]), [.t 32], none⟩,
            ⟨(some 34), .eff (.append 3 32), [.t 31, .t 33], none⟩,
            ⟨(some 4), .pure .move, [.t 34], none⟩])))))
        (.ops [⟨(some 35), .pure (.bin .add), [.t 19, .c (.int .i64 1)], none⟩,
          ⟨(some 19), .pure .move, [.t 35], none⟩])))))))
    (.seq (.ops [⟨(some 36), .pure .move, [.t 4], none⟩,
      ⟨(some 2), .pure .move, [.t 36], none⟩,
      ⟨(some 3), .pure .move, [.c (.int .i64 0)], none⟩])
    .ret)))))) }
/-- datakit/datakitref39.Path -/
def ac10 : AFn :=
  { nt := 39, res := [.tmp 2, .tmp 3], body :=
    (.seq (.ops [⟨(some 1), .new (.box 13), [.t 0], none⟩,
      ⟨(some 2), .pure .move, [.c (.snil 3)], none⟩,
      ⟨(some 3), .pure .move, [.c (.int .i64 0)], none⟩])
    (.seq (.seq (.ops [⟨(some 8), .pure (.faddr 0), [.t 1], none⟩,
      ⟨(some 9), .read (.load none), [.t 8], none⟩,
      ⟨(some 10), .pure (.bin .neq), [.t 9, .c (.int .i64 6)], none⟩])
    (.cond (.t 10)
      (.seq (.ops [⟨(some 2), .pure .move, [.c (.snil 3)], none⟩,
        ⟨(some 3), .pure .move, [.c (.int .i64 6)], none⟩])
      .ret)
      .skip))
    (.seq (.seq (.ops [⟨(some 11), .pure (.faddr 11), [.t 1], none⟩,
      ⟨(some 12), .read (.load none), [.t 11], none⟩,
      ⟨(some 13), .pure .lenL, [.t 12], none⟩,
      ⟨(some 14), .pure (.bin .gtr), [.t 13, .c (.int .i64 48)], none⟩])
    (.cond (.t 14)
      (.seq (.ops [⟨(some 2), .pure .move, [.c (.snil 3)], none⟩,
        ⟨(some 3), .pure .move, [.c (.int .i64 10)], none⟩])
      .ret)
      .skip))
    (.seq (.ops [⟨(some 4), .pure .move, [.c (.snil 3)], none⟩])
    (.seq (.seq (.ops [⟨(some 5), .pure .move, [.c (.int .i64 0)], none⟩])
    (.block 0
      (.loop [1, 4, 5]
        (.seq (.seq (.ops [⟨(some 15), .pure .move, [.t 5], none⟩,
          ⟨(some 16), .pure (.faddr 11), [.t 1], none⟩,
          ⟨(some 17), .read (.load none), [.t 16], none⟩,
          ⟨(some 18), .pure .lenL, [.t 17], none⟩,
          ⟨(some 19), .pure (.bin .lss), [.t 15, .t 18], none⟩])
        (.cond (.t 19)
          .skip
          (.exit 0)))
        (.seq (.block 1
          (.seq (.ops [⟨(some 23), .pure (.faddr 11), [.t 1], none⟩,
            ⟨(some 24), .read (.load none), [.t 23], none⟩,
            ⟨(some 25), .pure .move, [.t 5], none⟩,
            ⟨(some 26), .pure (.iaddrS 13), [.t 24, .t 25], none⟩,
            ⟨(some 27), .read (.load (some 13)), [.t 26], none⟩,
            ⟨(some 28), .pcall 8, [.t 27], none⟩,
            ⟨(some 22), .pure .move, [.t 28], none⟩,
            ⟨(some 29), .pure (.ext 0), [.t 22], none⟩,
            ⟨(some 30), .pure (.ext 1), [.t 22], none⟩,
            ⟨(some 6), .new (.new 3 [.agg [.bool false, .str [], .int .i64 0]]), [], none⟩,
            ⟨none, .eff (.store 3), [.t 6, .t 29], none⟩,
            ⟨(some 7), .pure .move, [.t 30], none⟩])
          (.seq (.seq (.ops [⟨(some 31), .pure .move, [.t 7], none⟩,
            ⟨(some 32), .pure (.bin .neq), [.t 31, .c (.int .i64 0)], none⟩])
          (.cond (.t 32)
            (.seq (.ops [⟨(some 33), .pure .move, [.t 7], none⟩,
              ⟨(some 2), .pure .move, [.c (.snil 3)], none⟩,
              ⟨(some 3), .pure .move, [.t 33], none⟩])
            .ret)
            .skip))
          (.ops [⟨(some 34), .pure .move, [.t 4], none⟩,
            ⟨(some 35), .read (.load (some 3)), [.t 6], none⟩,
            ⟨(some 36), .new (.buildSlice 3 [.agg [.bool false, .str [], .int .i64 0]] [0]), [.t 35], none⟩,
            ⟨(some 37), .eff (.append 3 32), [.t 34, .t 36], none⟩,
            ⟨(some 4), .pure .move, [.t 37], none⟩]))))
        (.ops [⟨(some 20), .pure .move, [.t 5], none⟩,
          ⟨(some 21), .pure (.bin .add), [.t 20, .c (.int .i64 1)], none⟩,
          ⟨(some 5), .pure .move, [.t 21], none⟩]))))))
    (.seq (.ops [⟨(some 38), .pure .move, [.t 4], none⟩,
      ⟨(some 2), .pure .move, [.t 38], none⟩,
      ⟨(some 3), .pure .move, [.c (.int .i64 0)], none⟩])
    .ret)))))) }
/-- datakit/datakitref08.Equal -/
def ac11 : AFn :=
  { nt := 26, res := [.tmp 4], body :=
    (.seq (.ops [⟨(some 4), .pure .move, [.c (.bool false)], none⟩])
    (.seq (.seq (.ops [⟨(some 6), .pure .move, [.t 0], none⟩,
      ⟨(some 7), .pure .lenL, [.t 6], none⟩,
      ⟨(some 8), .pure .move, [.t 1], none⟩,
      ⟨(some 9), .pure .lenL, [.t 8], none⟩,
      ⟨(some 10), .pure (.bin .neq), [.t 7, .t 9], none⟩])
    (.cond (.t 10)
      (.seq (.ops [⟨(some 4), .pure .move, [.c (.bool false)], none⟩])
      .ret)
      .skip))
    (.seq (.seq (.ops [⟨(some 5), .pure .move, [.c (.int .i64 0)], none⟩])
    (.block 0
      (.loop [0, 1, 5]
        (.seq (.seq (.ops [⟨(some 11), .pure .move, [.t 5], none⟩,
          ⟨(some 12), .pure .move, [.t 0], none⟩,
          ⟨(some 13), .pure .lenL, [.t 12], none⟩,
          ⟨(some 14), .pure (.bin .lss), [.t 11, .t 13], none⟩])
        (.cond (.t 14)
          .skip
          (.exit 0)))
        (.seq (.block 1
          (.seq (.ops [⟨(some 17), .pure .move, [.t 0], none⟩,
            ⟨(some 18), .pure .move, [.t 5], none⟩,
            ⟨(some 19), .pure (.iaddrS 3), [.t 17, .t 18], none⟩,
            ⟨(some 20), .read (.load (some 3)), [.t 19], none⟩,
            ⟨(some 21), .pure .move, [.t 1], none⟩,
            ⟨(some 22), .pure .move, [.t 5], none⟩,
            ⟨(some 23), .pure (.iaddrS 3), [.t 21, .t 22], none⟩,
            ⟨(some 24), .read (.load (some 3)), [.t 23], none⟩,
            ⟨(some 25), .pure (.eqF [.bool, .str, .int] true), [.t 20, .t 24], none⟩])
          (.cond (.t 25)
            (.seq (.ops [⟨(some 4), .pure .move, [.c (.bool false)], none⟩])
            .ret)
            .skip)))
        (.ops [⟨(some 15), .pure .move, [.t 5], none⟩,
          ⟨(some 16), .pure (.bin .add), [.t 15, .c (.int .i64 1)], none⟩,
          ⟨(some 5), .pure .move, [.t 16], none⟩]))))))
    (.seq (.ops [⟨(some 4), .pure .move, [.c (.bool true)], none⟩])
    .ret)))) }
/-- datakit/datakitref08.Valid -/
def ac12 : AFn :=
  { nt := 74, res := [.tmp 2], body :=
    (.seq (.ops [⟨(some 2), .pure .move, [.c (.bool false)], none⟩])
    (.seq (.seq (.ops [⟨(some 4), .pure .move, [.t 0], none⟩,
      ⟨(some 5), .pure .lenL, [.t 4], none⟩,
      ⟨(some 6), .pure (.bin .gtr), [.t 5, .c (.int .i64 48)], none⟩])
    (.cond (.t 6)
      (.seq (.ops [⟨(some 2), .pure .move, [.c (.bool false)], none⟩])
      .ret)
      .skip))
    (.seq (.seq (.ops [⟨(some 3), .pure .move, [.c (.int .i64 0)], none⟩])
    (.block 0
      (.loop [0, 3]
        (.seq (.seq (.ops [⟨(some 7), .pure .move, [.t 3], none⟩,
          ⟨(some 8), .pure .move, [.t 0], none⟩,
          ⟨(some 9), .pure .lenL, [.t 8], none⟩,
          ⟨(some 10), .pure (.bin .lss), [.t 7, .t 9], none⟩])
        (.cond (.t 10)
          .skip
          (.exit 0)))
        (.seq (.block 1
          (.seq (.seq (.ops [⟨(some 13), .pure .move, [.t 0], none⟩,
            ⟨(some 14), .pure .move, [.t 3], none⟩,
            ⟨(some 15), .pure (.iaddrS 3), [.t 13, .t 14], none⟩,
            ⟨(some 16), .pure (.faddr 0), [.t 15], none⟩,
            ⟨(some 17), .read (.load none), [.t 16], none⟩,
            ⟨(some 18), .pure .move, [.t 17], none⟩,
            ⟨(some 19), .pure .move, [.t 0], some (18, true)⟩,
            ⟨(some 20), .pure .move, [.t 3], some (18, true)⟩,
            ⟨(some 21), .pure (.iaddrS 3), [.t 19, .t 20], some (18, true)⟩,
            ⟨(some 22), .pure (.faddr 1), [.t 21], some (18, true)⟩,
            ⟨(some 23), .read (.load none), [.t 22], some (18, true)⟩,
            ⟨(some 24), .pure (.bin .neq), [.t 23, .c (.str [])], some (18, true)⟩,
            ⟨(some 25), .pure .move, [.t 24], some (18, true)⟩,
            ⟨(some 26), .pure .move, [.t 0], some (25, false)⟩,
            ⟨(some 27), .pure .move, [.t 3], some (25, false)⟩,
            ⟨(some 28), .pure (.iaddrS 3), [.t 26, .t 27], some (25, false)⟩,
            ⟨(some 29), .pure (.faddr 2), [.t 28], some (25, false)⟩,
            ⟨(some 30), .read (.load none), [.t 29], some (25, false)⟩,
            ⟨(some 31), .pure (.bin .lss), [.t 30, .c (.int .i64 0)], some (25, false)⟩,
            ⟨(some 32), .pure .pick, [.t 25, .c (.bool true), .t 31], some (18, true)⟩,
            ⟨(some 33), .pure .move, [.t 32], some (18, true)⟩,
            ⟨(some 34), .pure .move, [.t 0], some (33, false)⟩,
            ⟨(some 35), .pure .move, [.t 3], some (33, false)⟩,
            ⟨(some 36), .pure (.iaddrS 3), [.t 34, .t 35], some (33, false)⟩,
            ⟨(some 37), .pure (.faddr 2), [.t 36], some (33, false)⟩,
            ⟨(some 38), .read (.load none), [.t 37], some (33, false)⟩,
            ⟨(some 39), .pure (.bin .gtr), [.t 38, .c (.int .i64 65536)], some (33, false)⟩,
            ⟨(some 40), .pure .pick, [.t 33, .c (.bool true), .t 39], some (18, true)⟩,
            ⟨(some 41), .pure .pick, [.t 18, .t 40, .c (.bool false)], none⟩])
          (.cond (.t 41)
            (.seq (.ops [⟨(some 2), .pure .move, [.c (.bool false)], none⟩])
            .ret)
            .skip))
          (.seq (.ops [⟨(some 42), .pure .move, [.t 0], none⟩,
            ⟨(some 43), .pure .move, [.t 3], none⟩,
            ⟨(some 44), .pure (.iaddrS 3), [.t 42, .t 43], none⟩,
            ⟨(some 45), .pure (.faddr 0), [.t 44], none⟩,
            ⟨(some 46), .read (.load none), [.t 45], none⟩,
            ⟨(some 47), .pure (.un .not), [.t 46], none⟩,
            ⟨(some 48), .pure .move, [.t 47], none⟩,
            ⟨(some 49), .pure .move, [.t 0], some (48, true)⟩,
            ⟨(some 50), .pure .move, [.t 3], some (48, true)⟩,
            ⟨(some 51), .pure (.iaddrS 3), [.t 49, .t 50], some (48, true)⟩,
            ⟨(some 52), .pure (.faddr 2), [.t 51], some (48, true)⟩,
            ⟨(some 53), .read (.load none), [.t 52], some (48, true)⟩,
            ⟨(some 54), .pure (.bin .neq), [.t 53, .c (.int .i64 0)], some (48, true)⟩,
            ⟨(some 55), .pure .move, [.t 54], some (48, true)⟩,
            ⟨(some 56), .pure .move, [.t 0], some (55, false)⟩,
            ⟨(some 57), .pure .move, [.t 3], some (55, false)⟩,
            ⟨(some 58), .pure (.iaddrS 3), [.t 56, .t 57], some (55, false)⟩,
            ⟨(some 59), .pure (.faddr 1), [.t 58], some (55, false)⟩,
            ⟨(some 60), .read (.load none), [.t 59], some (55, false)⟩,
            ⟨(some 61), .pure .lenS, [.t 60], some (55, false)⟩,
            ⟨(some 62), .pure (.bin .gtr), [.t 61, .c (.int .i64 1024)], some (55, false)⟩,
            ⟨(some 63), .pure .pick, [.t 55, .c (.bool true), .t 62], some (48, true)⟩,
            ⟨(some 64), .pure .move, [.t 63], some (48, true)⟩,
            ⟨(some 65), .pure .move, [.t 0], some (64, false)⟩,
            ⟨(some 66), .pure .move, [.t 3], some (64, false)⟩,
            ⟨(some 67), .pure (.iaddrS 3), [.t 65, .t 66], some (64, false)⟩,
            ⟨(some 68), .pure (.faddr 1), [.t 67], some (64, false)⟩,
            ⟨(some 69), .read (.load none), [.t 68], some (64, false)⟩,
            ⟨(some 70), .pcall 24, [.t 69], some (64, false)⟩,
            ⟨(some 71), .pure (.un .not), [.t 70], some (64, false)⟩,
            ⟨(some 72), .pure .pick, [.t 64, .c (.bool true), .t 71], some (48, true)⟩,
            ⟨(some 73), .pure .pick, [.t 48, .t 72, .c (.bool false)], none⟩])
          (.cond (.t 73)
            (.seq (.ops [⟨(some 2), .pure .move, [.c (.bool false)], none⟩])
            .ret)
            .skip))))
        (.ops [⟨(some 11), .pure .move, [.t 3], none⟩,
          ⟨(some 12), .pure (.bin .add), [.t 11, .c (.int .i64 1)], none⟩,
          ⟨(some 3), .pure .move, [.t 12], none⟩]))))))
    (.seq (.ops [⟨(some 2), .pure .move, [.c (.bool true)], none⟩])
    .ret)))) }
/-- datakit/path.Key -/
def ac20 : AFn :=
  { nt := 5, res := [.cell 2 (some 3)], body :=
    (.seq (.ops [⟨(some 2), .new (.new 3 [.agg [.bool false, .str [], .int .i64 0]]), [], none⟩])
    (.seq (.ops [⟨(some 3), .pure .move, [.t 0], none⟩,
      ⟨(some 4), .pure (.build [.bool false, .str [], .int .i64 0] [(1, 1)]), [.t 3], none⟩,
      ⟨none, .eff (.store 3), [.t 2, .t 4], none⟩])
    .ret)) }
/-- datakit/qpath.index -/
def ac21 : AFn :=
  { nt := 50, res := [.tmp 2, .tmp 3], body :=
    (.seq (.ops [⟨(some 1), .new (.box 3), [.t 0], none⟩,
      ⟨(some 2), .pure .move, [.c (.int .i64 0)], none⟩,
      ⟨(some 3), .pure .move, [.c (.bool false)], none⟩])
    (.seq (.seq (.ops [⟨(some 6), .pure (.faddr 0), [.t 1], none⟩,
      ⟨(some 7), .read (.load none), [.t 6], none⟩,
      ⟨(some 8), .pure .move, [.t 7], none⟩,
      ⟨(some 9), .pure (.faddr 2), [.t 1], some (8, false)⟩,
      ⟨(some 10), .read (.load none), [.t 9], some (8, false)⟩,
      ⟨(some 11), .pure (.bin .lss), [.t 10, .c (.int .i64 0)], some (8, false)⟩,
      ⟨(some 12), .pure .pick, [.t 8, .c (.bool true), .t 11], none⟩,
      ⟨(some 13), .pure .move, [.t 12], none⟩,
      ⟨(some 14), .pure (.faddr 1), [.t 1], some (13, false)⟩,
      ⟨(some 15), .read (.load none), [.t 14], some (13, false)⟩,
      ⟨(some 16), .pure .lenS, [.t 15], some (13, false)⟩,
      ⟨(some 17), .pure (.faddr 2), [.t 1], some (13, false)⟩,
      ⟨(some 18), .read (.load none), [.t 17], some (13, false)⟩,
      ⟨(some 19), .pure (.bin .add), [.t 16, .t 18], some (13, false)⟩,
      ⟨(some 20), .pure (.bin .gtr), [.t 19, .c (.int .i64 5)], some (13, false)⟩,
      ⟨(some 21), .pure .pick, [.t 13, .c (.bool true), .t 20], none⟩])
    (.cond (.t 21)
      (.seq (.ops [⟨(some 2), .pure .move, [.c (.int .i64 0)], none⟩,
        ⟨(some 3), .pure .move, [.c (.bool false)], none⟩])
      .ret)
      .skip))
    (.seq (.ops [⟨(some 4), .pure .move, [.c (.int .i64 0)], none⟩])
    (.seq (.seq (.ops [⟨(some 22), .pure (.faddr 1), [.t 1], none⟩,
      ⟨(some 23), .read (.load none), [.t 22], none⟩,
      ⟨(some 24), .pure .lenS, [.t 23], none⟩,
      ⟨(some 25), .pure (.faddr 2), [.t 1], none⟩,
      ⟨(some 26), .read (.load none), [.t 25], none⟩,
      ⟨(some 27), .pure (.bin .add), [.t 24, .t 26], none⟩,
      ⟨(some 28), .pure .move, [.c (.int .i64 0)], none⟩])
    (.block 0
      (.loop [1, 4, 27, 28]
        (.seq (.ops [⟨(some 29), .pure (.bin .lss), [.t 28, .t 27], none⟩])
        (.seq (.cond (.t 29)
          .skip
          (.exit 0))
        (.seq (.block 1
          (.seq (.ops [⟨(some 30), .pure .move, [.t 28], none⟩,
            ⟨(some 5), .pure .move, [.t 30], none⟩])
          (.seq (.ops [⟨(some 31), .pure .move, [.t 4], none⟩,
            ⟨(some 32), .pure (.bin .mul), [.t 31, .c (.int .i64 10)], none⟩,
            ⟨(some 4), .pure .move, [.t 32], none⟩])
          (.seq (.ops [⟨(some 33), .pure .move, [.t 5], none⟩,
            ⟨(some 34), .pure (.faddr 1), [.t 1], none⟩,
            ⟨(some 35), .read (.load none), [.t 34], none⟩,
            ⟨(some 36), .pure .lenS, [.t 35], none⟩,
            ⟨(some 37), .pure (.bin .lss), [.t 33, .t 36], none⟩])
          (.cond (.t 37)
            (.ops [⟨(some 38), .pure .move, [.t 4], none⟩,
              ⟨(some 39), .pure (.faddr 1), [.t 1], none⟩,
              ⟨(some 40), .read (.load none), [.t 39], none⟩,
              ⟨(some 41), .pure .move, [.t 5], none⟩,
              ⟨(some 42), .pure .idxStr, [.t 40, .t 41], none⟩,
              ⟨(some 43), .pure (.bin .sub), [.t 42, .c (.int .u8 48)], none⟩,
              ⟨(some 44), .pure (.conv .i64), [.t 43], none⟩,
              ⟨(some 45), .pure (.bin .add), [.t 38, .t 44], none⟩,
              ⟨(some 4), .pure .move, [.t 45], none⟩])
            .skip)))))
        (.ops [⟨(some 46), .pure (.bin .add), [.t 28, .c (.int .i64 1)], none⟩,
          ⟨(some 28), .pure .move, [.t 46], none⟩])))))))
    (.seq (.ops [⟨(some 47), .pure .move, [.t 4], none⟩,
      ⟨(some 48), .pure .move, [.t 4], none⟩,
      ⟨(some 49), .pure (.bin .leq), [.t 48, .c (.int .i64 65536)], none⟩,
      ⟨(some 2), .pure .move, [.t 47], none⟩,
      ⟨(some 3), .pure .move, [.t 49], none⟩])
    .ret))))) }
/-- datakit/path.At -/
def ac22 : AFn :=
  { nt := 5, res := [.cell 2 (some 3)], body :=
    (.seq (.ops [⟨(some 2), .new (.new 3 [.agg [.bool false, .str [], .int .i64 0]]), [], none⟩])
    (.seq (.ops [⟨(some 3), .pure .move, [.t 0], none⟩,
      ⟨(some 4), .pure (.build [.bool false, .str [], .int .i64 0] [(0, 1), (2, 1)]), [.c (.bool true), .t 3], none⟩,
      ⟨none, .eff (.store 3), [.t 2, .t 4], none⟩])
    .ret)) }
/-- datakit/datakitref02.ToInt -/
def ac23 : AFn :=
  { nt := 40, res := [.tmp 2, .tmp 3], body :=
    (.seq (.ops [⟨(some 1), .new (.box 3), [.t 0], none⟩,
      ⟨(some 2), .pure .move, [.c (.int .i64 0)], none⟩,
      ⟨(some 3), .pure .move, [.c (.int .i64 0)], none⟩])
    (.seq (.seq (.ops [⟨(some 7), .pure (.faddr 2), [.t 1], none⟩,
      ⟨(some 8), .read (.load none), [.t 7], none⟩,
      ⟨(some 9), .pure (.bin .lss), [.t 8, .c (.int .i64 0)], none⟩])
    (.cond (.t 9)
      (.seq (.ops [⟨(some 2), .pure .move, [.c (.int .i64 0)], none⟩,
        ⟨(some 3), .pure .move, [.c (.int .i64 15)], none⟩])
      .ret)
      .skip))
    (.seq (.seq (.ops [⟨(some 10), .pure (.faddr 1), [.t 1], none⟩,
      ⟨(some 11), .read (.load none), [.t 10], none⟩,
      ⟨(some 12), .pure .lenS, [.t 11], none⟩,
      ⟨(some 13), .pure (.faddr 2), [.t 1], none⟩,
      ⟨(some 14), .read (.load none), [.t 13], none⟩,
      ⟨(some 15), .pure (.bin .add), [.t 12, .t 14], none⟩,
      ⟨(some 16), .pure (.bin .gtr), [.t 15, .c (.int .i64 19)], none⟩])
    (.cond (.t 16)
      (.seq (.ops [⟨(some 2), .pure .move, [.c (.int .i64 0)], none⟩,
        ⟨(some 3), .pure .move, [.c (.int .i64 2)], none⟩])
      .ret)
      .skip))
    (.seq (.ops [⟨(some 17), .pure (.faddr 1), [.t 1], none⟩,
      ⟨(some 18), .read (.load none), [.t 17], none⟩,
      ⟨(some 19), .pure (.faddr 2), [.t 1], none⟩,
      ⟨(some 20), .read (.load none), [.t 19], none⟩,
      ⟨(some 21), .pcall 40, [.t 20], none⟩,
      ⟨(some 22), .pure (.bin .add), [.t 18, .t 21], none⟩,
      ⟨(some 4), .pure .move, [.t 22], none⟩])
    (.seq (.seq (.ops [⟨(some 23), .pure (.faddr 0), [.t 1], none⟩,
      ⟨(some 24), .read (.load none), [.t 23], none⟩,
      ⟨(some 25), .pure .move, [.t 24], none⟩,
      ⟨(some 26), .pure .move, [.t 4], some (25, true)⟩,
      ⟨(some 27), .pure (.bin .eql), [.t 26, .c (.str [57, 50, 50, 51, 51, 55, 50, 48, 51, 54, 56, 53, 52, 55, 55, 53, 56, 48, 56])], some (25, true)⟩,
      ⟨(some 28), .pure .pick, [.t 25, .t 27, .c (.bool false)], none⟩])
    (.cond (.t 28)
      (.seq (.ops [⟨(some 2), .pure .move, [.c (.int .i64 (-9223372036854775808))], none⟩,
        ⟨(some 3), .pure .move, [.c (.int .i64 0)], none⟩])
      .ret)
      .skip))
    (.seq (.ops [⟨(some 30), .pure .move, [.t 4], none⟩,
      ⟨(some 31), .pcall 41, [.t 30], none⟩,
      ⟨(some 29), .pure .move, [.t 31], none⟩,
      ⟨(some 32), .pure (.ext 0), [.t 29], none⟩,
      ⟨(some 33), .pure (.ext 1), [.t 29], none⟩,
      ⟨(some 5), .pure .move, [.t 32], none⟩,
      ⟨(some 6), .pure .move, [.t 33], none⟩])
    (.seq (.seq (.ops [⟨(some 34), .pure (.faddr 0), [.t 1], none⟩,
      ⟨(some 35), .read (.load none), [.t 34], none⟩])
    (.cond (.t 35)
      (.ops [⟨(some 36), .pure .move, [.t 5], none⟩,
        ⟨(some 37), .pure (.un .neg), [.t 36], none⟩,
        ⟨(some 5), .pure .move, [.t 37], none⟩])
      .skip))
    (.seq (.ops [⟨(some 38), .pure .move, [.t 5], none⟩,
      ⟨(some 39), .pure .move, [.t 6], none⟩,
      ⟨(some 2), .pure .move, [.t 38], none⟩,
      ⟨(some 3), .pure .move, [.t 39], none⟩])
    .ret)))))))) }
/-- datakit/datakitref03.Valid -/
def ac24 : AFn :=
  { nt := 11, res := [.tmp 2], body :=
    (.seq (.ops [⟨(some 2), .pure .move, [.c (.bool false)], none⟩])
    (.seq (.ops [⟨(some 6), .pure .move, [.t 0], none⟩,
      ⟨(some 7), .pcall 42, [.t 6], none⟩,
      ⟨(some 5), .pure .move, [.t 7], none⟩,
      ⟨(some 8), .pure (.ext 0), [.t 5], none⟩,
      ⟨(some 9), .pure (.ext 1), [.t 5], none⟩,
      ⟨(some 3), .pure .move, [.t 8], none⟩,
      ⟨(some 4), .pure .move, [.t 9], none⟩])
    (.seq (.ops [⟨(some 10), .pure .move, [.t 4], none⟩,
      ⟨(some 2), .pure .move, [.t 10], none⟩])
    .ret))) }
/-- datakit/datakitref01.Noughts -/
def ac40 : AFn :=
  { nt := 17, res := [.tmp 2], body :=
    (.seq (.ops [⟨(some 2), .pure .move, [.c (.str [])], none⟩])
    (.seq (.ops [⟨(some 5), .pure .move, [.t 0], none⟩,
      ⟨(some 6), .new (.mkSlice 1 1 (.int .u8 0)), [.t 5, .t 5], none⟩,
      ⟨(some 3), .pure .move, [.t 6], none⟩])
    (.seq (.seq (.ops [⟨(some 4), .pure .move, [.c (.int .i64 0)], none⟩])
    (.block 0
      (.loop [0, 3, 4]
        (.seq (.seq (.ops [⟨(some 7), .pure .move, [.t 4], none⟩,
          ⟨(some 8), .pure .move, [.t 0], none⟩,
          ⟨(some 9), .pure (.bin .lss), [.t 7, .t 8], none⟩])
        (.cond (.t 9)
          .skip
          (.exit 0)))
        (.seq (.block 1
          (.ops [⟨(some 12), .pure .move, [.t 3], none⟩,
            ⟨(some 13), .pure .move, [.t 4], none⟩,
            ⟨(some 14), .pure (.iaddrS 1), [.t 12, .t 13], none⟩,
            ⟨none, .eff (.store 1), [.t 14, .c (.int .u8 48)], none⟩]))
        (.ops [⟨(some 10), .pure .move, [.t 4], none⟩,
          ⟨(some 11), .pure (.bin .add), [.t 10, .c (.int .i64 1)], none⟩,
          ⟨(some 4), .pure .move, [.t 11], none⟩]))))))
    (.seq (.ops [⟨(some 15), .pure .move, [.t 3], none⟩,
      ⟨(some 16), .read .bytesStr, [.t 15], none⟩,
      ⟨(some 2), .pure .move, [.t 16], none⟩])
    .ret)))) }
/-- datakit/datakitref01.ToInt -/
def ac41 : AFn :=
  { nt := 36, res := [.tmp 2, .tmp 3], body :=
    (.seq (.ops [⟨(some 2), .pure .move, [.c (.int .i64 0)], none⟩,
      ⟨(some 3), .pure .move, [.c (.int .i64 0)], none⟩])
    (.seq (.seq (.ops [⟨(some 6), .pure .move, [.t 0], none⟩,
      ⟨(some 7), .pcall 59, [.t 6], none⟩,
      ⟨(some 8), .pure (.un .not), [.t 7], none⟩])
    (.cond (.t 8)
      (.seq (.ops [⟨(some 2), .pure .move, [.c (.int .i64 0)], none⟩,
        ⟨(some 3), .pure .move, [.c (.int .i64 3)], none⟩])
      .ret)
      .skip))
    (.seq (.seq (.ops [⟨(some 9), .pure .move, [.t 0], none⟩,
      ⟨(some 10), .pure .lenS, [.t 9], none⟩,
      ⟨(some 11), .pure (.bin .gtr), [.t 10, .c (.int .i64 19)], none⟩,
      ⟨(some 12), .pure .move, [.t 11], none⟩,
      ⟨(some 13), .pure .move, [.t 0], some (12, false)⟩,
      ⟨(some 14), .pure .lenS, [.t 13], some (12, false)⟩,
      ⟨(some 15), .pure (.bin .eql), [.t 14, .c (.int .i64 19)], some (12, false)⟩,
      ⟨(some 16), .pure .move, [.t 15], some (12, false)⟩,
      ⟨(some 17), .pure .move, [.t 0], some (16, true)⟩,
      ⟨(some 18), .pure (.bin .gtr), [.t 17, .c (.str [57, 50, 50, 51, 51, 55, 50, 48, 51, 54, 56, 53, 52, 55, 55, 53, 56, 48, 55])], some (16, true)⟩,
      ⟨(some 19), .pure .pick, [.t 16, .t 18, .c (.bool false)], some (12, false)⟩,
      ⟨(some 20), .pure .pick, [.t 12, .c (.bool true), .t 19], none⟩])
    (.cond (.t 20)
      (.seq (.ops [⟨(some 2), .pure .move, [.c (.int .i64 0)], none⟩,
        ⟨(some 3), .pure .move, [.c (.int .i64 2)], none⟩])
      .ret)
      .skip))
    (.seq (.ops [⟨(some 4), .pure .move, [.c (.int .i64 0)], none⟩])
    (.seq (.seq (.ops [⟨(some 5), .pure .move, [.c (.int .i64 0)], none⟩])
    (.block 0
      (.loop [0, 4, 5]
        (.seq (.seq (.ops [⟨(some 21), .pure .move, [.t 5], none⟩,
          ⟨(some 22), .pure .move, [.t 0], none⟩,
          ⟨(some 23), .pure .lenS, [.t 22], none⟩,
          ⟨(some 24), .pure (.bin .lss), [.t 21, .t 23], none⟩])
        (.cond (.t 24)
          .skip
          (.exit 0)))
        (.seq (.block 1
          (.ops [⟨(some 27), .pure .move, [.t 4], none⟩,
            ⟨(some 28), .pure (.bin .mul), [.c (.int .i64 10), .t 27], none⟩,
            ⟨(some 29), .pure .move, [.t 0], none⟩,
            ⟨(some 30), .pure .move, [.t 5], none⟩,
            ⟨(some 31), .pure .idxStr, [.t 29, .t 30], none⟩,
            ⟨(some 32), .pure (.conv .i64), [.t 31], none⟩,
            ⟨(some 33), .pure (.bin .add), [.t 28, .t 32], none⟩,
            ⟨(some 34), .pure (.bin .sub), [.t 33, .c (.int .i64 48)], none⟩,
            ⟨(some 4), .pure .move, [.t 34], none⟩]))
        (.ops [⟨(some 25), .pure .move, [.t 5], none⟩,
          ⟨(some 26), .pure (.bin .add), [.t 25, .c (.int .i64 1)], none⟩,
          ⟨(some 5), .pure .move, [.t 26], none⟩]))))))
    (.seq (.ops [⟨(some 35), .pure .move, [.t 4], none⟩,
      ⟨(some 2), .pure .move, [.t 35], none⟩,
      ⟨(some 3), .pure .move, [.c (.int .i64 0)], none⟩])
    .ret)))))) }
/-- datakit/datakitref03.Boundaries -/
def ac42 : AFn :=
  { nt := 30, res := [.tmp 2, .tmp 3], body :=
    (.seq (.ops [⟨(some 2), .pure .move, [.c (.snil 1)], none⟩,
      ⟨(some 3), .pure .move, [.c (.bool false)], none⟩])
    (.seq (.ops [⟨(some 8), .new (.buildSlice 1 [.int .i64 0] [0]), [.c (.int .i64 0)], none⟩,
      ⟨(some 4), .pure .move, [.t 8], none⟩])
    (.seq (.ops [⟨(some 5), .pure .move, [.c (.int .i64 0)], none⟩])
    (.seq (.block 0
      (.loop [0, 4, 5]
        (.seq (.seq (.ops [⟨(some 9), .pure .move, [.t 5], none⟩,
          ⟨(some 10), .pure .move, [.t 0], none⟩,
          ⟨(some 11), .pure .lenS, [.t 10], none⟩,
          ⟨(some 12), .pure (.bin .lss), [.t 9, .t 11], none⟩])
        (.cond (.t 12)
          .skip
          (.exit 0)))
        (.block 1
          (.seq (.ops [⟨(some 14), .pure .move, [.t 0], none⟩,
            ⟨(some 15), .pure .move, [.t 5], none⟩,
            ⟨(some 16), .pcall 60, [.t 14, .t 15], none⟩,
            ⟨(some 13), .pure .move, [.t 16], none⟩,
            ⟨(some 17), .pure (.ext 0), [.t 13], none⟩,
            ⟨(some 18), .pure (.ext 1), [.t 13], none⟩,
            ⟨(some 6), .pure .move, [.t 17], none⟩,
            ⟨(some 7), .pure .move, [.t 18], none⟩])
          (.seq (.seq (.ops [⟨(some 19), .pure .move, [.t 7], none⟩,
            ⟨(some 20), .pure (.bin .eql), [.t 19, .c (.int .i64 0)], none⟩])
          (.cond (.t 20)
            (.seq (.ops [⟨(some 21), .pure .move, [.t 4], none⟩,
              ⟨(some 2), .pure .move, [.t 21], none⟩,
              ⟨(some 3), .pure .move, [.c (.bool false)], none⟩])
            .ret)
            .skip))
          (.seq (.ops [⟨(some 22), .pure .move, [.t 5], none⟩,
            ⟨(some 23), .pure .move, [.t 7], none⟩,
            ⟨(some 24), .pure (.bin .add), [.t 22, .t 23], none⟩,
            ⟨(some 5), .pure .move, [.t 24], none⟩])
          (.ops [⟨(some 25), .pure .move, [.t 4], none⟩,
            ⟨(some 26), .pure .move, [.t 5], none⟩,
            ⟨(some 27), .new (.buildSlice 1 [.int .i64 0] [0]), [.t 26], none⟩,
            ⟨(some 28), .eff (.append 1 8), [.t 25, .t 27], none⟩,
            ⟨(some 4), .pure .move, [.t 28], none⟩]))))))))
    (.seq (.ops [⟨(some 29), .pure .move, [.t 4], none⟩,
      ⟨(some 2), .pure .move, [.t 29], none⟩,
      ⟨(some 3), .pure .move, [.c (.bool true)], none⟩])
    .ret))))) }
/-- datakit/datakitref01.Valid -/
def ac59 : AFn :=
  { nt := 20, res := [.tmp 2], body :=
    (.seq (.ops [⟨(some 2), .pure .move, [.c (.bool false)], none⟩])
    (.seq (.ops [⟨(some 3), .pure .move, [.t 0], none⟩,
      ⟨(some 4), .pure .lenS, [.t 3], none⟩,
      ⟨(some 5), .pure (.bin .leq), [.t 4, .c (.int .i64 600)], none⟩,
      ⟨(some 6), .pure .move, [.t 5], none⟩,
      ⟨(some 7), .pure .move, [.t 0], some (6, true)⟩,
      ⟨(some 8), .pcall 82, [.t 7], some (6, true)⟩,
      ⟨(some 9), .pure .pick, [.t 6, .t 8, .c (.bool false)], none⟩,
      ⟨(some 10), .pure .move, [.t 9], none⟩,
      ⟨(some 11), .pure .move, [.t 0], some (10, true)⟩,
      ⟨(some 12), .pure .lenS, [.t 11], some (10, true)⟩,
      ⟨(some 13), .pure (.bin .eql), [.t 12, .c (.int .i64 0)], some (10, true)⟩,
      ⟨(some 14), .pure .move, [.t 13], some (10, true)⟩,
      ⟨(some 15), .pure .move, [.t 0], some (14, false)⟩,
      ⟨(some 16), .pure .idxStr, [.t 15, .c (.int .i64 0)], some (14, false)⟩,
      ⟨(some 17), .pure (.bin .neq), [.t 16, .c (.int .u8 48)], some (14, false)⟩,
      ⟨(some 18), .pure .pick, [.t 14, .c (.bool true), .t 17], some (10, true)⟩,
      ⟨(some 19), .pure .pick, [.t 10, .t 18, .c (.bool false)], none⟩,
      ⟨(some 2), .pure .move, [.t 19], none⟩])
    .ret)) }
/-- datakit/datakitref03.Decode -/
def ac60 : AFn :=
  { nt := 80, res := [.tmp 4, .tmp 5], body :=
    (.seq (.ops [⟨(some 4), .pure .move, [.c (.int .i64 0)], none⟩,
      ⟨(some 5), .pure .move, [.c (.int .i64 0)], none⟩])
    (.seq (.seq (.ops [⟨(some 12), .pure .move, [.t 1], none⟩,
      ⟨(some 13), .pure (.bin .lss), [.t 12, .c (.int .i64 0)], none⟩,
      ⟨(some 14), .pure .move, [.t 13], none⟩,
      ⟨(some 15), .pure .move, [.t 1], some (14, false)⟩,
      ⟨(some 16), .pure .move, [.t 0], some (14, false)⟩,
      ⟨(some 17), .pure .lenS, [.t 16], some (14, false)⟩,
      ⟨(some 18), .pure (.bin .geq), [.t 15, .t 17], some (14, false)⟩,
      ⟨(some 19), .pure .pick, [.t 14, .c (.bool true), .t 18], none⟩])
    (.cond (.t 19)
      (.seq (.ops [⟨(some 4), .pure .move, [.c (.int .i64 0)], none⟩,
        ⟨(some 5), .pure .move, [.c (.int .i64 0)], none⟩])
      .ret)
      .skip))
    (.seq (.ops [⟨(some 20), .pure .move, [.t 0], none⟩,
      ⟨(some 21), .pure .move, [.t 1], none⟩,
      ⟨(some 22), .pure .idxStr, [.t 20, .t 21], none⟩,
      ⟨(some 23), .pure (.conv .i64), [.t 22], none⟩,
      ⟨(some 6), .pure .move, [.t 23], none⟩])
    (.seq (.ops [⟨(some 24), .pure .move, [.t 6], none⟩,
      ⟨(some 7), .pure .move, [.c (.int .i64 1)], none⟩,
      ⟨(some 8), .pure .move, [.t 24], none⟩])
    (.seq (.block 0
      (.seq (.ops [⟨(some 26), .pure .move, [.t 6], none⟩,
        ⟨(some 27), .pure (.bin .geq), [.t 26, .c (.int .i64 240)], none⟩,
        ⟨(some 25), .pure .move, [.t 27], none⟩])
      (.cond (.t 25)
        (.ops [⟨(some 28), .pure .move, [.t 6], none⟩,
          ⟨(some 29), .pure (.bin .and), [.t 28, .c (.int .i64 7)], none⟩,
          ⟨(some 7), .pure .move, [.c (.int .i64 4)], none⟩,
          ⟨(some 8), .pure .move, [.t 29], none⟩])
        (.seq (.ops [⟨(some 31), .pure .move, [.t 6], none⟩,
          ⟨(some 32), .pure (.bin .geq), [.t 31, .c (.int .i64 224)], none⟩,
          ⟨(some 30), .pure .move, [.t 32], none⟩])
        (.cond (.t 30)
          (.ops [⟨(some 33), .pure .move, [.t 6], none⟩,
            ⟨(some 34), .pure (.bin .and), [.t 33, .c (.int .i64 15)], none⟩,
            ⟨(some 7), .pure .move, [.c (.int .i64 3)], none⟩,
            ⟨(some 8), .pure .move, [.t 34], none⟩])
          (.seq (.ops [⟨(some 36), .pure .move, [.t 6], none⟩,
            ⟨(some 37), .pure (.bin .geq), [.t 36, .c (.int .i64 192)], none⟩,
            ⟨(some 35), .pure .move, [.t 37], none⟩])
          (.cond (.t 35)
            (.ops [⟨(some 38), .pure .move, [.t 6], none⟩,
              ⟨(some 39), .pure (.bin .and), [.t 38, .c (.int .i64 31)], none⟩,
              ⟨(some 7), .pure .move, [.c (.int .i64 2)], none⟩,
              ⟨(some 8), .pure .move, [.t 39], none⟩])
            .skip)))))))
    (.seq (.seq (.ops [⟨(some 40), .pure .move, [.t 0], none⟩,
      ⟨(some 41), .pure .lenS, [.t 40], none⟩,
      ⟨(some 42), .pure .move, [.t 1], none⟩,
      ⟨(some 43), .pure (.bin .sub), [.t 41, .t 42], none⟩,
      ⟨(some 44), .pure .move, [.t 7], none⟩,
      ⟨(some 45), .pure (.bin .lss), [.t 43, .t 44], none⟩])
    (.cond (.t 45)
      (.seq (.ops [⟨(some 4), .pure .move, [.c (.int .i64 0)], none⟩,
        ⟨(some 5), .pure .move, [.c (.int .i64 0)], none⟩])
      .ret)
      .skip))
    (.seq (.seq (.ops [⟨(some 9), .pure .move, [.c (.int .i64 1)], none⟩])
    (.block 1
      (.loop [0, 1, 7, 8, 9]
        (.seq (.seq (.ops [⟨(some 46), .pure .move, [.t 9], none⟩,
          ⟨(some 47), .pure .move, [.t 7], none⟩,
          ⟨(some 48), .pure (.bin .lss), [.t 46, .t 47], none⟩])
        (.cond (.t 48)
          .skip
          (.exit 1)))
        (.seq (.block 2
          (.ops [⟨(some 51), .pure .move, [.t 8], none⟩,
            ⟨(some 52), .pure (.bin .shl), [.t 51, .c (.int .u64 6)], none⟩,
            ⟨(some 53), .pure .move, [.t 0], none⟩,
            ⟨(some 54), .pure .move, [.t 1], none⟩,
            ⟨(some 55), .pure .move, [.t 9], none⟩,
            ⟨(some 56), .pure (.bin .add), [.t 54, .t 55], none⟩,
            ⟨(some 57), .pure .idxStr, [.t 53, .t 56], none⟩,
            ⟨(some 58), .pure (.conv .i64), [.t 57], none⟩,
            ⟨(some 59), .pure (.bin .and), [.t 58, .c (.int .i64 63)], none⟩,
            ⟨(some 60), .pure (.bin .or), [.t 52, .t 59], none⟩,
            ⟨(some 8), .pure .move, [.t 60], none⟩]))
        (.ops [⟨(some 49), .pure .move, [.t 9], none⟩,
          ⟨(some 50), .pure (.bin .add), [.t 49, .c (.int .i64 1)], none⟩,
          ⟨(some 9), .pure .move, [.t 50], none⟩]))))))
    (.seq (.ops [⟨(some 62), .pure .move, [.t 8], none⟩,
      ⟨(some 63), .pcall 83, [.t 62], none⟩,
      ⟨(some 61), .pure .move, [.t 63], none⟩,
      ⟨(some 64), .pure (.ext 0), [.t 61], none⟩,
      ⟨(some 65), .pure (.ext 1), [.t 61], none⟩,
      ⟨(some 10), .pure .move, [.t 64], none⟩,
      ⟨(some 11), .pure .move, [.t 65], none⟩])
    (.seq (.seq (.ops [⟨(some 66), .pure .move, [.t 11], none⟩,
      ⟨(some 67), .pure (.bin .neq), [.t 66, .c (.int .i64 0)], none⟩,
      ⟨(some 68), .pure .move, [.t 67], none⟩,
      ⟨(some 69), .pure .move, [.t 10], some (68, false)⟩,
      ⟨(some 70), .pure .move, [.t 0], some (68, false)⟩,
      ⟨(some 71), .pure .move, [.t 1], some (68, false)⟩,
      ⟨(some 72), .pure .move, [.t 1], some (68, false)⟩,
      ⟨(some 73), .pure .move, [.t 7], some (68, false)⟩,
      ⟨(some 74), .pure (.bin .add), [.t 72, .t 73], some (68, false)⟩,
      ⟨(some 75), .pure (.sliceS true true), [.t 70, .t 71, .t 74], some (68, false)⟩,
      ⟨(some 76), .pure (.bin .neq), [.t 69, .t 75], some (68, false)⟩,
      ⟨(some 77), .pure .pick, [.t 68, .c (.bool true), .t 76], none⟩])
    (.cond (.t 77)
      (.seq (.ops [⟨(some 4), .pure .move, [.c (.int .i64 0)], none⟩,
        ⟨(some 5), .pure .move, [.c (.int .i64 0)], none⟩])
      .ret)
      .skip))
    (.seq (.ops [⟨(some 78), .pure .move, [.t 8], none⟩,
      ⟨(some 79), .pure .move, [.t 7], none⟩,
      ⟨(some 4), .pure .move, [.t 78], none⟩,
      ⟨(some 5), .pure .move, [.t 79], none⟩])
    .ret)))))))))) }
/-- datakit/datakitref02.Valid -/
def ac79 : AFn :=
  { nt := 39, res := [.tmp 2], body :=
    (.seq (.ops [⟨(some 1), .new (.box 3), [.t 0], none⟩,
      ⟨(some 2), .pure .move, [.c (.bool false)], none⟩])
    (.seq (.seq (.ops [⟨(some 3), .pure (.faddr 1), [.t 1], none⟩,
      ⟨(some 4), .read (.load none), [.t 3], none⟩,
      ⟨(some 5), .pure (.bin .eql), [.t 4, .c (.str [])], none⟩])
    (.cond (.t 5)
      (.seq (.ops [⟨(some 6), .pure (.faddr 0), [.t 1], none⟩,
        ⟨(some 7), .read (.load none), [.t 6], none⟩,
        ⟨(some 8), .pure (.un .not), [.t 7], none⟩,
        ⟨(some 9), .pure .move, [.t 8], none⟩,
        ⟨(some 10), .pure (.faddr 2), [.t 1], some (9, true)⟩,
        ⟨(some 11), .read (.load none), [.t 10], some (9, true)⟩,
        ⟨(some 12), .pure (.bin .eql), [.t 11, .c (.int .i64 0)], some (9, true)⟩,
        ⟨(some 13), .pure .pick, [.t 9, .t 12, .c (.bool false)], none⟩,
        ⟨(some 2), .pure .move, [.t 13], none⟩])
      .ret)
      .skip))
    (.seq (.ops [⟨(some 14), .pure (.faddr 1), [.t 1], none⟩,
      ⟨(some 15), .read (.load none), [.t 14], none⟩,
      ⟨(some 16), .pure .lenS, [.t 15], none⟩,
      ⟨(some 17), .pure (.bin .leq), [.t 16, .c (.int .i64 120)], none⟩,
      ⟨(some 18), .pure .move, [.t 17], none⟩,
      ⟨(some 19), .pure (.faddr 1), [.t 1], some (18, true)⟩,
      ⟨(some 20), .read (.load none), [.t 19], some (18, true)⟩,
      ⟨(some 21), .pcall 59, [.t 20], some (18, true)⟩,
      ⟨(some 22), .pure .pick, [.t 18, .t 21, .c (.bool false)], none⟩,
      ⟨(some 23), .pure .move, [.t 22], none⟩,
      ⟨(some 24), .pure (.faddr 1), [.t 1], some (23, true)⟩,
      ⟨(some 25), .read (.load none), [.t 24], some (23, true)⟩,
      ⟨(some 26), .pcall 90, [.t 25], some (23, true)⟩,
      ⟨(some 27), .pure (.bin .eql), [.t 26, .c (.int .i64 0)], some (23, true)⟩,
      ⟨(some 28), .pure .pick, [.t 23, .t 27, .c (.bool false)], none⟩,
      ⟨(some 29), .pure .move, [.t 28], none⟩,
      ⟨(some 30), .pure (.faddr 2), [.t 1], some (29, true)⟩,
      ⟨(some 31), .read (.load none), [.t 30], some (29, true)⟩,
      ⟨(some 32), .pure (.bin .geq), [.t 31, .c (.int .i64 (-400))], some (29, true)⟩,
      ⟨(some 33), .pure .pick, [.t 29, .t 32, .c (.bool false)], none⟩,
      ⟨(some 34), .pure .move, [.t 33], none⟩,
      ⟨(some 35), .pure (.faddr 2), [.t 1], some (34, true)⟩,
      ⟨(some 36), .read (.load none), [.t 35], some (34, true)⟩,
      ⟨(some 37), .pure (.bin .leq), [.t 36, .c (.int .i64 400)], some (34, true)⟩,
      ⟨(some 38), .pure .pick, [.t 34, .t 37, .c (.bool false)], none⟩,
      ⟨(some 2), .pure .move, [.t 38], none⟩])
    .ret))) }
/-- datakit/datakitref01.Digits -/
def ac82 : AFn :=
  { nt := 20, res := [.tmp 2], body :=
    (.seq (.ops [⟨(some 2), .pure .move, [.c (.bool false)], none⟩])
    (.seq (.seq (.ops [⟨(some 3), .pure .move, [.c (.int .i64 0)], none⟩])
    (.block 0
      (.loop [0, 3]
        (.seq (.seq (.ops [⟨(some 4), .pure .move, [.t 3], none⟩,
          ⟨(some 5), .pure .move, [.t 0], none⟩,
          ⟨(some 6), .pure .lenS, [.t 5], none⟩,
          ⟨(some 7), .pure (.bin .lss), [.t 4, .t 6], none⟩])
        (.cond (.t 7)
          .skip
          (.exit 0)))
        (.seq (.block 1
          (.seq (.ops [⟨(some 10), .pure .move, [.t 0], none⟩,
            ⟨(some 11), .pure .move, [.t 3], none⟩,
            ⟨(some 12), .pure .idxStr, [.t 10, .t 11], none⟩,
            ⟨(some 13), .pure (.bin .lss), [.t 12, .c (.int .u8 48)], none⟩,
            ⟨(some 14), .pure .move, [.t 13], none⟩,
            ⟨(some 15), .pure .move, [.t 0], some (14, false)⟩,
            ⟨(some 16), .pure .move, [.t 3], some (14, false)⟩,
            ⟨(some 17), .pure .idxStr, [.t 15, .t 16], some (14, false)⟩,
            ⟨(some 18), .pure (.bin .gtr), [.t 17, .c (.int .u8 57)], some (14, false)⟩,
            ⟨(some 19), .pure .pick, [.t 14, .c (.bool true), .t 18], none⟩])
          (.cond (.t 19)
            (.seq (.ops [⟨(some 2), .pure .move, [.c (.bool false)], none⟩])
            .ret)
            .skip)))
        (.ops [⟨(some 8), .pure .move, [.t 3], none⟩,
          ⟨(some 9), .pure (.bin .add), [.t 8, .c (.int .i64 1)], none⟩,
          ⟨(some 3), .pure .move, [.t 9], none⟩]))))))
    (.seq (.ops [⟨(some 2), .pure .move, [.c (.bool true)], none⟩])
    .ret))) }
/-- datakit/datakitref03.Encode -/
def ac83 : AFn :=
  { nt := 66, res := [.tmp 2, .tmp 3], body :=
    (.seq (.ops [⟨(some 2), .pure .move, [.c (.str [])], none⟩,
      ⟨(some 3), .pure .move, [.c (.int .i64 0)], none⟩])
    (.seq (.block 0
      (.seq (.ops [⟨(some 5), .pure .move, [.t 0], none⟩,
        ⟨(some 6), .pcall 93, [.t 5], none⟩,
        ⟨(some 7), .pure (.un .not), [.t 6], none⟩,
        ⟨(some 4), .pure .move, [.t 7], none⟩])
      (.cond (.t 4)
        (.seq (.ops [⟨(some 2), .pure .move, [.c (.str [])], none⟩,
          ⟨(some 3), .pure .move, [.c (.int .i64 2)], none⟩])
        .ret)
        (.seq (.ops [⟨(some 9), .pure .move, [.t 0], none⟩,
          ⟨(some 10), .pure (.bin .lss), [.t 9, .c (.int .i64 128)], none⟩,
          ⟨(some 8), .pure .move, [.t 10], none⟩])
        (.cond (.t 8)
          (.seq (.ops [⟨(some 11), .pure .move, [.t 0], none⟩,
            ⟨(some 12), .pure (.conv .u8), [.t 11], none⟩,
            ⟨(some 13), .new (.buildSlice 1 [.int .u8 0] [0]), [.t 12], none⟩,
            ⟨(some 14), .read .bytesStr, [.t 13], none⟩,
            ⟨(some 2), .pure .move, [.t 14], none⟩,
            ⟨(some 3), .pure .move, [.c (.int .i64 0)], none⟩])
          .ret)
          (.seq (.ops [⟨(some 16), .pure .move, [.t 0], none⟩,
            ⟨(some 17), .pure (.bin .lss), [.t 16, .c (.int .i64 2048)], none⟩,
            ⟨(some 15), .pure .move, [.t 17], none⟩])
          (.cond (.t 15)
            (.seq (.ops [⟨(some 18), .pure .move, [.t 0], none⟩,
              ⟨(some 19), .pure (.bin .shr), [.t 18, .c (.int .u64 6)], none⟩,
              ⟨(some 20), .pure (.bin .or), [.c (.int .i64 192), .t 19], none⟩,
              ⟨(some 21), .pure (.conv .u8), [.t 20], none⟩,
              ⟨(some 22), .pure .move, [.t 0], none⟩,
              ⟨(some 23), .pure (.bin .and), [.t 22, .c (.int .i64 63)], none⟩,
              ⟨(some 24), .pure (.bin .or), [.c (.int .i64 128), .t 23], none⟩,
              ⟨(some 25), .pure (.conv .u8), [.t 24], none⟩,
              ⟨(some 26), .new (.buildSlice 1 [.int .u8 0, .int .u8 0] [0, 1]), [.t 21, .t 25], none⟩,
              ⟨(some 27), .read .bytesStr, [.t 26], none⟩,
              ⟨(some 2), .pure .move, [.t 27], none⟩,
              ⟨(some 3), .pure .move, [.c (.int .i64 0)], none⟩])
            .ret)
            (.seq (.ops [⟨(some 29), .pure .move, [.t 0], none⟩,
              ⟨(some 30), .pure (.bin .lss), [.t 29, .c (.int .i64 65536)], none⟩,
              ⟨(some 28), .pure .move, [.t 30], none⟩])
            (.cond (.t 28)
              (.seq (.ops [⟨(some 31), .pure .move, [.t 0], none⟩,
                ⟨(some 32), .pure (.bin .shr), [.t 31, .c (.int .u64 12)], none⟩,
                ⟨(some 33), .pure (.bin .or), [.c (.int .i64 224), .t 32], none⟩,
                ⟨(some 34), .pure (.conv .u8), [.t 33], none⟩,
                ⟨(some 35), .pure .move, [.t 0], none⟩,
                ⟨(some 36), .pure (.bin .shr), [.t 35, .c (.int .u64 6)], none⟩,
                ⟨(some 37), .pure (.bin .and), [.t 36, .c (.int .i64 63)], none⟩,
                ⟨(some 38), .pure (.bin .or), [.c (.int .i64 128), .t 37], none⟩,
                ⟨(some 39), .pure (.conv .u8), [.t 38], none⟩,
                ⟨(some 40), .pure .move, [.t 0], none⟩,
                ⟨(some 41), .pure (.bin .and), [.t 40, .c (.int .i64 63)], none⟩,
                ⟨(some 42), .pure (.bin .or), [.c (.int .i64 128), .t 41], none⟩,
                ⟨(some 43), .pure (.conv .u8), [.t 42], none⟩,
                ⟨(some 44), .new (.buildSlice 1 [.int .u8 0, .int .u8 0, .int .u8 0] [0, 1, 2]), [.t 34, .t 39, .t 43], none⟩,
                ⟨(some 45), .read .bytesStr, [.t 44], none⟩,
                ⟨(some 2), .pure .move, [.t 45], none⟩,
                ⟨(some 3), .pure .move, [.c (.int .i64 0)], none⟩])
              .ret)
              .skip)))))))))
    (.seq (.ops [⟨(some 46), .pure .move, [.t 0], none⟩,
      ⟨(some 47), .pure (.bin .shr), [.t 46, .c (.int .u64 18)], none⟩,
      ⟨(some 48), .pure (.bin .or), [.c (.int .i64 240), .t 47], none⟩,
      ⟨(some 49), .pure (.conv .u8), [.t 48], none⟩,
      ⟨(some 50), .pure .move, [.t 0], none⟩,
      ⟨(some 51), .pure (.bin .shr), [.t 50, .c (.int .u64 12)], none⟩,
      ⟨(some 52), .pure (.bin .and), [.t 51, .c (.int .i64 63)], none⟩,
      ⟨(some 53), .pure (.bin .or), [.c (.int .i64 128), .t 52], none⟩,
      ⟨(some 54), .pure (.conv .u8), [.t 53], none⟩,
      ⟨(some 55), .pure .move, [.t 0], none⟩,
      ⟨(some 56), .pure (.bin .shr), [.t 55, .c (.int .u64 6)], none⟩,
      ⟨(some 57), .pure (.bin .and), [.t 56, .c (.int .i64 63)], none⟩,
      ⟨(some 58), .pure (.bin .or), [.c (.int .i64 128), .t 57], none⟩,
      ⟨(some 59), .pure (.conv .u8), [.t 58], none⟩,
      ⟨(some 60), .pure .move, [.t 0], none⟩,
      ⟨(some 61), .pure (.bin .and), [.t 60, .c (.int .i64 63)], none⟩,
      ⟨(some 62), .pure (.bin .or), [.c (.int .i64 128), .t 61], none⟩,
      ⟨(some 63), .pure (.conv .u8), [.t 62], none⟩,
      ⟨(some 64), .new (.buildSlice 1 [.int .u8 0, .int .u8 0, .int .u8 0, .int .u8 0] [0, 1, 2, 3]), [.t 49, .t 54, .t 59, .t 63], none⟩,
      ⟨(some 65), .read .bytesStr, [.t 64], none⟩,
      ⟨(some 2), .pure .move, [.t 65], none⟩,
      ⟨(some 3), .pure .move, [.c (.int .i64 0)], none⟩])
    .ret))) }
/-- datakit/datakitref01.Zeros -/
def ac90 : AFn :=
  { nt := 21, res := [.tmp 2], body :=
    (.seq (.ops [⟨(some 2), .pure .move, [.c (.int .i64 0)], none⟩])
    (.seq (.ops [⟨(some 3), .pure .move, [.c (.int .i64 0)], none⟩])
    (.seq (.block 0
      (.loop [0, 3]
        (.seq (.seq (.ops [⟨(some 4), .pure .move, [.t 3], none⟩,
          ⟨(some 5), .pure .move, [.t 0], none⟩,
          ⟨(some 6), .pure .lenS, [.t 5], none⟩,
          ⟨(some 7), .pure (.bin .lss), [.t 4, .t 6], none⟩,
          ⟨(some 8), .pure .move, [.t 7], none⟩,
          ⟨(some 9), .pure .move, [.t 0], some (8, true)⟩,
          ⟨(some 10), .pure .move, [.t 0], some (8, true)⟩,
          ⟨(some 11), .pure .lenS, [.t 10], some (8, true)⟩,
          ⟨(some 12), .pure (.bin .sub), [.t 11, .c (.int .i64 1)], some (8, true)⟩,
          ⟨(some 13), .pure .move, [.t 3], some (8, true)⟩,
          ⟨(some 14), .pure (.bin .sub), [.t 12, .t 13], some (8, true)⟩,
          ⟨(some 15), .pure .idxStr, [.t 9, .t 14], some (8, true)⟩,
          ⟨(some 16), .pure (.bin .eql), [.t 15, .c (.int .u8 48)], some (8, true)⟩,
          ⟨(some 17), .pure .pick, [.t 8, .t 16, .c (.bool false)], none⟩])
        (.cond (.t 17)
          .skip
          (.exit 0)))
        (.block 1
          (.ops [⟨(some 18), .pure .move, [.t 3], none⟩,
            ⟨(some 19), .pure (.bin .add), [.t 18, .c (.int .i64 1)], none⟩,
            ⟨(some 3), .pure .move, [.t 19], none⟩])))))
    (.seq (.ops [⟨(some 20), .pure .move, [.t 3], none⟩,
      ⟨(some 2), .pure .move, [.t 20], none⟩])
    .ret)))) }
/-- datakit/datakitref03.character -/
def ac93 : AFn :=
  { nt := 17, res := [.tmp 2], body :=
    (.seq (.ops [⟨(some 2), .pure .move, [.c (.bool false)], none⟩])
    (.seq (.ops [⟨(some 3), .pure .move, [.t 0], none⟩,
      ⟨(some 4), .pure (.bin .geq), [.t 3, .c (.int .i64 0)], none⟩,
      ⟨(some 5), .pure .move, [.t 4], none⟩,
      ⟨(some 6), .pure .move, [.t 0], some (5, true)⟩,
      ⟨(some 7), .pure (.bin .leq), [.t 6, .c (.int .i64 1114111)], some (5, true)⟩,
      ⟨(some 8), .pure .pick, [.t 5, .t 7, .c (.bool false)], none⟩,
      ⟨(some 9), .pure .move, [.t 8], none⟩,
      ⟨(some 10), .pure .move, [.t 0], some (9, true)⟩,
      ⟨(some 11), .pure (.bin .lss), [.t 10, .c (.int .i64 55296)], some (9, true)⟩,
      ⟨(some 12), .pure .move, [.t 11], some (9, true)⟩,
      ⟨(some 13), .pure .move, [.t 0], some (12, false)⟩,
      ⟨(some 14), .pure (.bin .gtr), [.t 13, .c (.int .i64 57343)], some (12, false)⟩,
      ⟨(some 15), .pure .pick, [.t 12, .c (.bool true), .t 14], some (9, true)⟩,
      ⟨(some 16), .pure .pick, [.t 9, .t 15, .c (.bool false)], none⟩,
      ⟨(some 2), .pure .move, [.t 16], none⟩])
    .ret)) }
/-- datakit/datakitlaw39.QpathBack -/
def ac115 : AFn :=
  { nt := 21, res := [.tmp 2], body :=
    (.seq (.ops [⟨(some 2), .pure .move, [.c (.bool false)], none⟩])
    (.seq (.seq (.ops [⟨(some 5), .pure .move, [.t 0], none⟩,
      ⟨(some 6), .pcall 12, [.t 5], none⟩,
      ⟨(some 7), .pure (.un .not), [.t 6], none⟩])
    (.cond (.t 7)
      (.seq (.ops [⟨(some 2), .pure .move, [.c (.bool true)], none⟩])
      .ret)
      .skip))
    (.seq (.ops [⟨(some 9), .pure .move, [.t 0], none⟩,
      ⟨(some 10), .pcall 119, [.t 9], none⟩,
      ⟨(some 11), .pcall 9, [.t 10], none⟩,
      ⟨(some 8), .pure .move, [.t 11], none⟩,
      ⟨(some 12), .pure (.ext 0), [.t 8], none⟩,
      ⟨(some 13), .pure (.ext 1), [.t 8], none⟩,
      ⟨(some 3), .pure .move, [.t 12], none⟩,
      ⟨(some 4), .pure .move, [.t 13], none⟩])
    (.seq (.ops [⟨(some 14), .pure .move, [.t 4], none⟩,
      ⟨(some 15), .pure (.bin .eql), [.t 14, .c (.int .i64 0)], none⟩,
      ⟨(some 16), .pure .move, [.t 15], none⟩,
      ⟨(some 17), .pure .move, [.t 0], some (16, true)⟩,
      ⟨(some 18), .pure .move, [.t 3], some (16, true)⟩,
      ⟨(some 19), .pcall 11, [.t 17, .t 18], some (16, true)⟩,
      ⟨(some 20), .pure .pick, [.t 16, .t 19, .c (.bool false)], none⟩,
      ⟨(some 2), .pure .move, [.t 20], none⟩])
    .ret)))) }
/-- datakit/qpath.Value -/
def ac119 : AFn :=
  { nt := 33, res := [.cell 2 (some 13)], body :=
    (.seq (.ops [⟨(some 2), .new (.new 13 [.agg [.int .i64 0, .bool false, .bool false, .str [], .int .i64 0, .int .i64 0, .int .i64 0, .int .i64 0, .int .i64 0, .str [], .snil 1, .snil 13, .snil 14]]), [], none⟩])
    (.seq (.ops [⟨(some 6), .pure (.build [.int .i64 0, .bool false, .bool false, .str [], .int .i64 0, .int .i64 0, .int .i64 0, .int .i64 0, .int .i64 0, .str [], .snil 1, .snil 13, .snil 14] [(0, 1)]), [.c (.int .i64 6)], none⟩,
      ⟨(some 3), .new (.new 13 [.agg [.int .i64 0, .bool false, .bool false, .str [], .int .i64 0, .int .i64 0, .int .i64 0, .int .i64 0, .int .i64 0, .str [], .snil 1, .snil 13, .snil 14]]), [], none⟩,
      ⟨none, .eff (.store 13), [.t 3, .t 6], none⟩])
    (.seq (.seq (.ops [⟨(some 7), .pure .move, [.t 0], none⟩,
      ⟨(some 8), .pure .lenL, [.t 7], none⟩,
      ⟨(some 9), .pure .move, [.c (.int .i64 0)], none⟩])
    (.block 0
      (.loop [2, 3, 7, 8, 9]
        (.seq (.ops [⟨(some 10), .pure (.bin .lss), [.t 9, .t 8], none⟩])
        (.seq (.cond (.t 10)
          .skip
          (.exit 0))
        (.seq (.block 1
          (.seq (.ops [⟨(some 11), .pure (.iaddrS 3), [.t 7, .t 9], none⟩,
            ⟨(some 12), .read (.load (some 3)), [.t 11], none⟩,
            ⟨(some 5), .new (.new 3 [.agg [.bool false, .str [], .int .i64 0]]), [], none⟩,
            ⟨none, .eff (.store 3), [.t 5, .t 12], none⟩])
          (.seq (.ops [⟨(some 13), .pure (.faddr 0), [.t 5], none⟩,
            ⟨(some 14), .read (.load none), [.t 13], none⟩])
          (.cond (.t 14)
            (.draw 1 [[⟨(some 15), .pure (.faddr 11), [.t 3], none⟩,
              ⟨(some 16), .read (.load none), [.t 15], none⟩,
              ⟨(some 17), .pure (.faddr 2), [.t 5], none⟩,
              ⟨(some 18), .read (.load none), [.t 17], none⟩,
              ⟨(some 19), .pcall 123, [.t 18], none⟩,
              ⟨(some 20), .newAt 0 (.buildSlice 13 [.agg [.int .i64 0, .bool false, .bool false, .str [], .int .i64 0, .int .i64 0, .int .i64 0, .int .i64 0, .int .i64 0, .str [], .snil 1, .snil 13, .snil 14]] [0]), [.t 19], none⟩,
              ⟨(some 21), .eff (.append 13 168), [.t 16, .t 20], none⟩,
              ⟨(some 22), .pure (.faddr 11), [.t 3], none⟩,
              ⟨none, .eff (.store 1), [.t 22, .t 21], none⟩]])
            (.draw 1 [[⟨(some 23), .pure (.faddr 11), [.t 3], none⟩,
              ⟨(some 24), .read (.load none), [.t 23], none⟩,
              ⟨(some 25), .pure (.faddr 1), [.t 5], none⟩,
              ⟨(some 26), .read (.load none), [.t 25], none⟩,
              ⟨(some 27), .pcall 124, [.t 26], none⟩,
              ⟨(some 28), .newAt 0 (.buildSlice 13 [.agg [.int .i64 0, .bool false, .bool false, .str [], .int .i64 0, .int .i64 0, .int .i64 0, .int .i64 0, .int .i64 0, .str [], .snil 1, .snil 13, .snil 14]] [0]), [.t 27], none⟩,
              ⟨(some 29), .eff (.append 13 168), [.t 24, .t 28], none⟩,
              ⟨(some 30), .pure (.faddr 11), [.t 3], none⟩,
              ⟨none, .eff (.store 1), [.t 30, .t 29], none⟩]])))))
        (.ops [⟨(some 31), .pure (.bin .add), [.t 9, .c (.int .i64 1)], none⟩,
          ⟨(some 9), .pure .move, [.t 31], none⟩])))))))
    (.seq (.ops [⟨(some 32), .read (.load (some 13)), [.t 3], none⟩,
      ⟨none, .eff (.store 13), [.t 2, .t 32], none⟩])
    .ret)))) }
/-- datakit/value.Int -/
def ac123 : AFn :=
  { nt := 6, res := [.cell 2 (some 13)], body :=
    (.seq (.ops [⟨(some 2), .new (.new 13 [.agg [.int .i64 0, .bool false, .bool false, .str [], .int .i64 0, .int .i64 0, .int .i64 0, .int .i64 0, .int .i64 0, .str [], .snil 1, .snil 13, .snil 14]]), [], none⟩])
    (.seq (.ops [⟨(some 3), .pure .move, [.t 0], none⟩,
      ⟨(some 4), .pcall 129, [.t 3], none⟩,
      ⟨(some 5), .pcall 128, [.t 4], none⟩,
      ⟨none, .eff (.store 13), [.t 2, .t 5], none⟩])
    .ret)) }
/-- datakit/value.Text -/
def ac124 : AFn :=
  { nt := 5, res := [.cell 2 (some 13)], body :=
    (.seq (.ops [⟨(some 2), .new (.new 13 [.agg [.int .i64 0, .bool false, .bool false, .str [], .int .i64 0, .int .i64 0, .int .i64 0, .int .i64 0, .int .i64 0, .str [], .snil 1, .snil 13, .snil 14]]), [], none⟩])
    (.seq (.ops [⟨(some 3), .pure .move, [.t 0], none⟩,
      ⟨(some 4), .pure (.build [.int .i64 0, .bool false, .bool false, .str [], .int .i64 0, .int .i64 0, .int .i64 0, .int .i64 0, .int .i64 0, .str [], .snil 1, .snil 13, .snil 14] [(0, 1), (9, 1)]), [.c (.int .i64 4), .t 3], none⟩,
      ⟨none, .eff (.store 13), [.t 2, .t 4], none⟩])
    .ret)) }
/-- datakit/value.Num -/
def ac128 : AFn :=
  { nt := 5, res := [.cell 2 (some 13)], body :=
    (.seq (.ops [⟨(some 1), .new (.box 3), [.t 0], none⟩,
      ⟨(some 2), .new (.new 13 [.agg [.int .i64 0, .bool false, .bool false, .str [], .int .i64 0, .int .i64 0, .int .i64 0, .int .i64 0, .int .i64 0, .str [], .snil 1, .snil 13, .snil 14]]), [], none⟩])
    (.seq (.ops [⟨(some 3), .read (.load (some 3)), [.t 1], none⟩,
      ⟨(some 4), .pure (.build [.int .i64 0, .bool false, .bool false, .str [], .int .i64 0, .int .i64 0, .int .i64 0, .int .i64 0, .int .i64 0, .str [], .snil 1, .snil 13, .snil 14] [(0, 1), (2, 3)]), [.c (.int .i64 2), .t 3], none⟩,
      ⟨none, .eff (.store 13), [.t 2, .t 4], none⟩])
    .ret)) }
/-- datakit/decimal.FromInt -/
def ac129 : AFn :=
  { nt := 34, res := [.cell 2 (some 3)], body :=
    (.seq (.ops [⟨(some 2), .new (.new 3 [.agg [.bool false, .str [], .int .i64 0]]), [], none⟩])
    (.seq (.ops [⟨(some 8), .pure .move, [.t 0], none⟩,
      ⟨(some 9), .pure (.bin .lss), [.t 8, .c (.int .i64 0)], none⟩,
      ⟨(some 3), .pure .move, [.t 9], none⟩])
    (.seq (.ops [⟨(some 4), .pure .move, [.c (.str [])], none⟩])
    (.seq (.seq (.ops [⟨(some 10), .pure .move, [.t 3], none⟩])
    (.cond (.t 10)
      (.seq (.ops [⟨(some 11), .pure .move, [.t 0], none⟩,
        ⟨(some 12), .pure (.bin .rem), [.t 11, .c (.int .i64 10)], none⟩,
        ⟨(some 13), .pure (.un .neg), [.t 12], none⟩,
        ⟨(some 5), .pure .move, [.t 13], none⟩])
      (.seq (.ops [⟨(some 14), .pure .move, [.t 0], none⟩,
        ⟨(some 15), .pure (.bin .quo), [.t 14, .c (.int .i64 10)], none⟩,
        ⟨(some 16), .pure (.un .neg), [.t 15], none⟩,
        ⟨(some 17), .pcall 136, [.t 16], none⟩,
        ⟨(some 18), .pure .move, [.t 5], none⟩,
        ⟨(some 19), .pure (.bin .add), [.c (.int .i64 48), .t 18], none⟩,
        ⟨(some 20), .pure (.conv .i32), [.t 19], none⟩,
        ⟨(some 21), .pure .runeStr, [.t 20], none⟩,
        ⟨(some 22), .pure (.bin .add), [.t 17, .t 21], none⟩,
        ⟨(some 4), .pure .move, [.t 22], none⟩])
      (.ops [⟨(some 23), .pure .move, [.t 4], none⟩,
        ⟨(some 24), .bad, [], none⟩,
        ⟨(some 4), .pure .move, [.t 24], none⟩])))
      (.ops [⟨(some 25), .pure .move, [.t 0], none⟩,
        ⟨(some 26), .pcall 136, [.t 25], none⟩,
        ⟨(some 4), .pure .move, [.t 26], none⟩])))
    (.seq (.ops [⟨(some 28), .pure .move, [.t 3], none⟩,
      ⟨(some 29), .pure .move, [.t 4], none⟩,
      ⟨(some 30), .pcall 138, [.t 28, .t 29, .c (.int .i64 0)], none⟩,
      ⟨(some 27), .pure .move, [.t 30], none⟩,
      ⟨(some 31), .pure (.ext 0), [.t 27], none⟩,
      ⟨(some 32), .pure (.ext 1), [.t 27], none⟩,
      ⟨(some 6), .new (.new 3 [.agg [.bool false, .str [], .int .i64 0]]), [], none⟩,
      ⟨none, .eff (.store 3), [.t 6, .t 31], none⟩,
      ⟨(some 7), .pure .move, [.t 32], none⟩])
    (.seq (.ops [⟨(some 33), .read (.load (some 3)), [.t 6], none⟩,
      ⟨none, .eff (.store 3), [.t 2, .t 33], none⟩])
    .ret)))))) }
/-- datakit/digits.FromInt -/
def ac136 : AFn :=
  { nt := 19, res := [.tmp 2], body :=
    (.seq (.ops [⟨(some 2), .pure .move, [.c (.str [])], none⟩])
    (.seq (.ops [⟨(some 3), .pure .move, [.c (.snil 1)], none⟩])
    (.seq (.block 0
      (.loop [0, 3]
        (.seq (.seq (.ops [⟨(some 4), .pure .move, [.t 0], none⟩,
          ⟨(some 5), .pure (.bin .gtr), [.t 4, .c (.int .i64 0)], none⟩])
        (.cond (.t 5)
          .skip
          (.exit 0)))
        (.seq (.block 1
          (.ops [⟨(some 8), .pure .move, [.t 3], none⟩,
            ⟨(some 9), .pure .move, [.t 0], none⟩,
            ⟨(some 10), .pure (.bin .rem), [.t 9, .c (.int .i64 10)], none⟩,
            ⟨(some 11), .pure (.bin .add), [.c (.int .i64 48), .t 10], none⟩,
            ⟨(some 12), .pure (.conv .u8), [.t 11], none⟩,
            ⟨(some 13), .new (.buildSlice 1 [.int .u8 0] [0]), [.t 12], none⟩,
            ⟨(some 14), .eff (.append 1 1), [.t 8, .t 13], none⟩,
            ⟨(some 3), .pure .move, [.t 14], none⟩]))
        (.ops [⟨(some 6), .pure .move, [.t 0], none⟩,
          ⟨(some 7), .pure (.bin .quo), [.t 6, .c (.int .i64 10)], none⟩,
          ⟨(some 0), .pure .move, [.t 7], none⟩])))))
    (.seq (.ops [⟨(some 15), .pure .move, [.t 3], none⟩,
      ⟨(some 16), .call 143, [.t 15], none⟩])
    (.seq (.ops [⟨(some 17), .pure .move, [.t 3], none⟩,
      ⟨(some 18), .read .bytesStr, [.t 17], none⟩,
      ⟨(some 2), .pure .move, [.t 18], none⟩])
    .ret))))) }
/-- datakit/decimal.norm -/
def ac138 : AFn :=
  { nt := 46, res := [.cell 6 (some 3), .tmp 7], body :=
    (.seq (.ops [⟨(some 6), .new (.new 3 [.agg [.bool false, .str [], .int .i64 0]]), [], none⟩,
      ⟨(some 7), .pure .move, [.c (.int .i64 0)], none⟩])
    (.seq (.seq (.ops [⟨(some 9), .pure .move, [.t 1], none⟩,
      ⟨(some 10), .pure (.bin .eql), [.t 9, .c (.str [])], none⟩])
    (.cond (.t 10)
      (.seq (.ops [⟨(some 11), .pure (.build [.bool false, .str [], .int .i64 0] []), [], none⟩,
        ⟨none, .eff (.store 3), [.t 6, .t 11], none⟩,
        ⟨(some 7), .pure .move, [.c (.int .i64 0)], none⟩])
      .ret)
      .skip))
    (.seq (.ops [⟨(some 12), .pure .move, [.t 1], none⟩,
      ⟨(some 13), .pure .lenS, [.t 12], none⟩,
      ⟨(some 14), .pure .move, [.t 1], none⟩,
      ⟨(some 15), .pcall 148, [.t 14, .c (.str [48])], none⟩,
      ⟨(some 16), .pure .lenS, [.t 15], none⟩,
      ⟨(some 17), .pure (.bin .sub), [.t 13, .t 16], none⟩,
      ⟨(some 8), .pure .move, [.t 17], none⟩])
    (.seq (.ops [⟨(some 18), .pure .move, [.t 1], none⟩,
      ⟨(some 19), .pure .move, [.t 1], none⟩,
      ⟨(some 20), .pure .lenS, [.t 19], none⟩,
      ⟨(some 21), .pure .move, [.t 8], none⟩,
      ⟨(some 22), .pure (.bin .sub), [.t 20, .t 21], none⟩,
      ⟨(some 23), .pure (.sliceS false true), [.t 18, .t 22], none⟩,
      ⟨(some 1), .pure .move, [.t 23], none⟩])
    (.seq (.seq (.ops [⟨(some 24), .pure .move, [.t 2], none⟩,
      ⟨(some 25), .pure .move, [.t 8], none⟩,
      ⟨(some 26), .pure (.bin .sub), [.c (.int .i64 400), .t 25], none⟩,
      ⟨(some 27), .pure (.bin .gtr), [.t 24, .t 26], none⟩,
      ⟨(some 28), .pure .move, [.t 27], none⟩,
      ⟨(some 29), .pure .move, [.t 2], some (28, false)⟩,
      ⟨(some 30), .pure .move, [.t 8], some (28, false)⟩,
      ⟨(some 31), .pure (.bin .sub), [.c (.int .i64 (-400)), .t 30], some (28, false)⟩,
      ⟨(some 32), .pure (.bin .lss), [.t 29, .t 31], some (28, false)⟩,
      ⟨(some 33), .pure .pick, [.t 28, .c (.bool true), .t 32], none⟩,
      ⟨(some 34), .pure .move, [.t 33], none⟩,
      ⟨(some 35), .pure .move, [.t 1], some (34, false)⟩,
      ⟨(some 36), .pure .lenS, [.t 35], some (34, false)⟩,
      ⟨(some 37), .pure (.bin .gtr), [.t 36, .c (.int .i64 120)], some (34, false)⟩,
      ⟨(some 38), .pure .pick, [.t 34, .c (.bool true), .t 37], none⟩])
    (.cond (.t 38)
      (.seq (.ops [⟨(some 39), .pure (.build [.bool false, .str [], .int .i64 0] []), [], none⟩,
        ⟨none, .eff (.store 3), [.t 6, .t 39], none⟩,
        ⟨(some 7), .pure .move, [.c (.int .i64 2)], none⟩])
      .ret)
      .skip))
    (.seq (.ops [⟨(some 40), .pure .move, [.t 0], none⟩,
      ⟨(some 41), .pure .move, [.t 1], none⟩,
      ⟨(some 42), .pure .move, [.t 2], none⟩,
      ⟨(some 43), .pure .move, [.t 8], none⟩,
      ⟨(some 44), .pure (.bin .add), [.t 42, .t 43], none⟩,
      ⟨(some 45), .pure (.build [.bool false, .str [], .int .i64 0] [(0, 1), (1, 1), (2, 1)]), [.t 40, .t 41, .t 44], none⟩,
      ⟨none, .eff (.store 3), [.t 6, .t 45], none⟩,
      ⟨(some 7), .pure .move, [.c (.int .i64 0)], none⟩])
    .ret)))))) }
/-- datakit/digits.reverse -/
def ac143 : AFn :=
  { nt := 28, res := [], body :=
    (.seq (.ops [⟨(some 4), .pure .move, [.t 0], none⟩,
      ⟨(some 5), .pure .lenL, [.t 4], none⟩,
      ⟨(some 6), .pure (.bin .sub), [.t 5, .c (.int .i64 1)], none⟩,
      ⟨(some 2), .pure .move, [.c (.int .i64 0)], none⟩,
      ⟨(some 3), .pure .move, [.t 6], none⟩])
    (.block 0
      (.loop [0, 2, 3]
        (.seq (.seq (.ops [⟨(some 7), .pure .move, [.t 2], none⟩,
          ⟨(some 8), .pure .move, [.t 3], none⟩,
          ⟨(some 9), .pure (.bin .lss), [.t 7, .t 8], none⟩])
        (.cond (.t 9)
          .skip
          (.exit 0)))
        (.seq (.block 1
          (.ops [⟨(some 14), .pure .move, [.t 0], none⟩,
            ⟨(some 15), .pure .move, [.t 2], none⟩,
            ⟨(some 16), .pure .move, [.t 0], none⟩,
            ⟨(some 17), .pure .move, [.t 3], none⟩,
            ⟨(some 18), .pure .move, [.t 0], none⟩,
            ⟨(some 19), .pure .move, [.t 3], none⟩,
            ⟨(some 20), .pure (.iaddrS 1), [.t 18, .t 19], none⟩,
            ⟨(some 21), .read (.load none), [.t 20], none⟩,
            ⟨(some 22), .pure .move, [.t 0], none⟩,
            ⟨(some 23), .pure .move, [.t 2], none⟩,
            ⟨(some 24), .pure (.iaddrS 1), [.t 22, .t 23], none⟩,
            ⟨(some 25), .read (.load none), [.t 24], none⟩,
            ⟨(some 26), .pure (.iaddrS 1), [.t 14, .t 15], none⟩,
            ⟨none, .eff (.store 1), [.t 26, .t 21], none⟩,
            ⟨(some 27), .pure (.iaddrS 1), [.t 16, .t 17], none⟩,
            ⟨none, .eff (.store 1), [.t 27, .t 25], none⟩]))
        (.ops [⟨(some 10), .pure .move, [.t 2], none⟩,
          ⟨(some 11), .pure (.bin .add), [.t 10, .c (.int .i64 1)], none⟩,
          ⟨(some 12), .pure .move, [.t 3], none⟩,
          ⟨(some 13), .pure (.bin .sub), [.t 12, .c (.int .i64 1)], none⟩,
          ⟨(some 2), .pure .move, [.t 11], none⟩,
          ⟨(some 3), .pure .move, [.t 13], none⟩])))))) }
/-- strings.TrimRight -/
def ac148 : AFn :=
  { nt := 37, res := [.tmp 4], body :=
    (.seq (.ops [⟨(some 4), .pure .move, [.c (.str [])], none⟩])
    (.seq (.seq (.ops [⟨(some 7), .pure .move, [.t 0], none⟩,
      ⟨(some 8), .pure (.bin .eql), [.t 7, .c (.str [])], none⟩,
      ⟨(some 9), .pure .move, [.t 8], none⟩,
      ⟨(some 10), .pure .move, [.t 1], some (9, false)⟩,
      ⟨(some 11), .pure (.bin .eql), [.t 10, .c (.str [])], some (9, false)⟩,
      ⟨(some 12), .pure .pick, [.t 9, .c (.bool true), .t 11], none⟩])
    (.cond (.t 12)
      (.seq (.ops [⟨(some 13), .pure .move, [.t 0], none⟩,
        ⟨(some 4), .pure .move, [.t 13], none⟩])
      .ret)
      .skip))
    (.seq (.seq (.ops [⟨(some 14), .pure .move, [.t 1], none⟩,
      ⟨(some 15), .pure .lenS, [.t 14], none⟩,
      ⟨(some 16), .pure (.bin .eql), [.t 15, .c (.int .i64 1)], none⟩,
      ⟨(some 17), .pure .move, [.t 16], none⟩,
      ⟨(some 18), .pure .move, [.t 1], some (17, true)⟩,
      ⟨(some 19), .pure .idxStr, [.t 18, .c (.int .i64 0)], some (17, true)⟩,
      ⟨(some 20), .pure (.bin .lss), [.t 19, .c (.int .u8 128)], some (17, true)⟩,
      ⟨(some 21), .pure .pick, [.t 17, .t 20, .c (.bool false)], none⟩])
    (.cond (.t 21)
      (.seq (.ops [⟨(some 22), .pure .move, [.t 0], none⟩,
        ⟨(some 23), .pure .move, [.t 1], none⟩,
        ⟨(some 24), .pure .idxStr, [.t 23, .c (.int .i64 0)], none⟩,
        ⟨(some 25), .pcall 155, [.t 22, .t 24], none⟩,
        ⟨(some 4), .pure .move, [.t 25], none⟩])
      .ret)
      .skip))
    (.seq (.seq (.ops [⟨(some 27), .pure .move, [.t 1], none⟩,
      ⟨(some 28), .bad, [], none⟩,
      ⟨(some 26), .pure .move, [.t 28], none⟩,
      ⟨(some 29), .pure (.ext 0), [.t 26], none⟩,
      ⟨(some 30), .pure (.ext 1), [.t 26], none⟩,
      ⟨(some 5), .new (.new 1 [.bool false, .bool false, .bool false, .bool false, .bool false, .bool false, .bool false, .bool false, .bool false, .bool false, .bool false, .bool false, .bool false, .bool false, .bool false, .bool false, .bool false, .bool false, .bool false, .bool false, .bool false, .bool false, .bool false, .bool false, .bool false, .bool false, .bool false, .bool false, .bool false, .bool false, .bool false, .bool false, .bool false, .bool false, .bool false, .bool false, .bool false, .bool false, .bool false, .bool false, .bool false, .bool false, .bool false, .bool false, .bool false, .bool false, .bool false, .bool false, .bool false, .bool false, .bool false, .bool false, .bool false, .bool false, .bool false, .bool false, .bool false, .bool false, .bool false, .bool false, .bool false, .bool false, .bool false, .bool false, .bool false, .bool false, .bool false, .bool false, .bool false, .bool false, .bool false, .bool false, .bool false, .bool false, .bool false, .bool false, .bool false, .bool false, .bool false, .bool false, .bool false, .bool false, .bool false, .bool false, .bool false, .bool false, .bool false, .bool false, .bool false, .bool false, .bool false, .bool false, .bool false, .bool false, .bool false, .bool false, .bool false, .bool false, .bool false, .bool false, .bool false, .bool false, .bool false, .bool false, .bool false, .bool false, .bool false, .bool false, .bool false, .bool false, .bool false, .bool false, .bool false, .bool false, .bool false, .bool false, .bool false, .bool false, .bool false, .bool false, .bool false, .bool false, .bool false, .bool false, .bool false, .bool false, .bool false, .bool false, .bool false, .bool false, .bool false, .bool false, .bool false, .bool false, .bool false, .bool false, .bool false, .bool false, .bool false, .bool false, .bool false, .bool false, .bool false, .bool false, .bool false, .bool false, .bool false, .bool false, .bool false, .bool false, .bool false, .bool false, .bool false, .bool false, .bool false, .bool false, .bool false, .bool false, .bool false, .bool false, .bool false, .bool false, .bool false, .bool false, .bool false, .bool false, .bool false, .bool false, .bool false, .bool false, .bool false, .bool false, .bool false, .bool false, .bool false, .bool false, .bool false, .bool false, .bool false, .bool false, .bool false, .bool false, .bool false, .bool false, .bool false, .bool false, .bool false, .bool false, .bool false, .bool false, .bool false, .bool false, .bool false, .bool false, .bool false, .bool false, .bool false, .bool false, .bool false, .bool false, .bool false, .bool false, .bool false, .bool false, .bool false, .bool false, .bool false, .bool false, .bool false, .bool false, .bool false, .bool false, .bool false, .bool false, .bool false, .bool false, .bool false, .bool false, .bool false, .bool false, .bool false, .bool false, .bool false, .bool false, .bool false, .bool false, .bool false, .bool false, .bool false, .bool false, .bool false, .bool false, .bool false, .bool false, .bool false, .bool false, .bool false, .bool false, .bool false, .bool false, .bool false, .bool false, .bool false, .bool false, .bool false, .bool false, .bool false, .bool false, .bool false, .bool false, .bool false, .bool false, .bool false, .bool false, .bool false, .bool false]), [], none⟩,
      ⟨none, .eff (.store 256), [.t 5, .t 29], none⟩,
      ⟨(some 6), .pure .move, [.t 30], none⟩])
    (.seq (.ops [⟨(some 31), .pure .move, [.t 6], none⟩])
    (.cond (.t 31)
      (.seq (.ops [⟨(some 32), .pure .move, [.t 0], none⟩,
        ⟨(some 33), .bad, [], none⟩,
        ⟨(some 4), .pure .move, [.t 33], none⟩])
      .ret)
      .skip)))
    (.seq (.ops [⟨(some 34), .pure .move, [.t 0], none⟩,
      ⟨(some 35), .pure .move, [.t 1], none⟩,
      ⟨(some 36), .bad, [], none⟩,
      ⟨(some 4), .pure .move, [.t 36], none⟩])
    .ret))))) }
/-- strings.trimRightByte -/
def ac155 : AFn :=
  { nt := 23, res := [.tmp 4], body :=
    (.seq (.ops [⟨(some 4), .pure .move, [.c (.str [])], none⟩])
    (.seq (.block 0
      (.loop [0, 1]
        (.seq (.seq (.ops [⟨(some 5), .pure .move, [.t 0], none⟩,
          ⟨(some 6), .pure .lenS, [.t 5], none⟩,
          ⟨(some 7), .pure (.bin .gtr), [.t 6, .c (.int .i64 0)], none⟩,
          ⟨(some 8), .pure .move, [.t 7], none⟩,
          ⟨(some 9), .pure .move, [.t 0], some (8, true)⟩,
          ⟨(some 10), .pure .move, [.t 0], some (8, true)⟩,
          ⟨(some 11), .pure .lenS, [.t 10], some (8, true)⟩,
          ⟨(some 12), .pure (.bin .sub), [.t 11, .c (.int .i64 1)], some (8, true)⟩,
          ⟨(some 13), .pure .idxStr, [.t 9, .t 12], some (8, true)⟩,
          ⟨(some 14), .pure .move, [.t 1], some (8, true)⟩,
          ⟨(some 15), .pure (.bin .eql), [.t 13, .t 14], some (8, true)⟩,
          ⟨(some 16), .pure .pick, [.t 8, .t 15, .c (.bool false)], none⟩])
        (.cond (.t 16)
          .skip
          (.exit 0)))
        (.block 1
          (.ops [⟨(some 17), .pure .move, [.t 0], none⟩,
            ⟨(some 18), .pure .move, [.t 0], none⟩,
            ⟨(some 19), .pure .lenS, [.t 18], none⟩,
            ⟨(some 20), .pure (.bin .sub), [.t 19, .c (.int .i64 1)], none⟩,
            ⟨(some 21), .pure (.sliceS false true), [.t 17, .t 20], none⟩,
            ⟨(some 0), .pure .move, [.t 21], none⟩])))))
    (.seq (.ops [⟨(some 22), .pure .move, [.t 0], none⟩,
      ⟨(some 4), .pure .move, [.t 22], none⟩])
    .ret))) }
def code : Nat → Option AFn
  | 7 => some ac7
  | 8 => some ac8
  | 9 => some ac9
  | 10 => some ac10
  | 11 => some ac11
  | 12 => some ac12
  | 20 => some ac20
  | 21 => some ac21
  | 22 => some ac22
  | 23 => some ac23
  | 24 => some ac24
  | 40 => some ac40
  | 41 => some ac41
  | 42 => some ac42
  | 59 => some ac59
  | 60 => some ac60
  | 79 => some ac79
  | 82 => some ac82
  | 83 => some ac83
  | 90 => some ac90
  | 93 => some ac93
  | 115 => some ac115
  | 119 => some ac119
  | 123 => some ac123
  | 124 => some ac124
  | 128 => some ac128
  | 129 => some ac129
  | 136 => some ac136
  | 138 => some ac138
  | 143 => some ac143
  | 148 => some ac148
  | 155 => some ac155
  | _ => none
def clR : Nat → Option (Nat × Nat)
  | _ => none
def clP : Nat → Option (Nat × Nat)
  | _ => none
def C0 : Ctx := mkCtx code clR clP
end Ago
