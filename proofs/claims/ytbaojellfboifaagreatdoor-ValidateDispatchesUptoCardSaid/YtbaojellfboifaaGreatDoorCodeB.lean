/- The abstract code of the functions, printed by program. -/
import Derived.Test.YtbaojellfboifaaGreatDoorCodeA
set_option linter.unusedSimpArgs false
set_option linter.unusedVariables false
set_option maxRecDepth 100000
namespace Ago
/-- datakit/schema.Check -/
def ac454 : AFn :=
  { nt := 85, res := [.tmp 2], body :=
    (.seq (.ops [⟨(some 1), .new (.box 16), [.t 0], none⟩,
      ⟨(some 2), .pure .move, [.c (.int .i64 0)], none⟩])
    (.seq (.ops [⟨(some 3), .new (.new 1 [.bool false]), [], none⟩,
      ⟨(some 4), .new (.new 1 [.int .i64 0]), [], none⟩,
      ⟨none, .eff (.store 1), [.t 3, .c (.bool false)], none⟩,
      ⟨none, .eff (.store 1), [.t 4, .c (.int .i64 0)], none⟩])
    (.seq (.ops [⟨(some 14), .pure (.mkfn 485), [.t 1, .t 3, .t 4], none⟩,
      ⟨(some 5), .pure .move, [.t 14], none⟩])
    (.seq (.seq (.ops [⟨(some 15), .pure (.faddr 0), [.t 1], none⟩,
      ⟨(some 16), .read (.load none), [.t 15], none⟩,
      ⟨(some 17), .pure .lenL, [.t 16], none⟩,
      ⟨(some 18), .pure .move, [.c (.int .i64 0)], none⟩])
    (.block 0
      (.loop [1, 3, 4, 5, 16, 17, 18]
        (.seq (.ops [⟨(some 19), .pure (.bin .lss), [.t 18, .t 17], none⟩])
        (.seq (.cond (.t 19)
          .skip
          (.exit 0))
        (.seq (.block 1
          (.seq (.ops [⟨(some 20), .pure .move, [.t 18], none⟩,
            ⟨(some 21), .pure (.iaddrS 16), [.t 16, .t 18], none⟩,
            ⟨(some 22), .read (.load (some 16)), [.t 21], none⟩,
            ⟨(some 7), .new (.new 16 [.agg [.str [], .int .i64 0, .int .i64 0, .int .i64 0, .int .i64 0, .str [], .snil 11, .int .i64 0, .int .i64 0, .int .i64 0, .int .i64 0, .int .i64 0, .snil 6, .snil 13, .snil 17, .snil 15]]), [], none⟩,
            ⟨(some 6), .pure .move, [.t 20], none⟩,
            ⟨none, .eff (.store 16), [.t 7, .t 22], none⟩])
          (.seq (.seq (.ops [⟨(some 23), .pure (.faddr 0), [.t 7], none⟩,
            ⟨(some 24), .read (.load none), [.t 23], none⟩,
            ⟨(some 25), .pure .lenS, [.t 24], none⟩,
            ⟨(some 26), .pure (.bin .lss), [.t 25, .c (.int .i64 1)], none⟩,
            ⟨(some 27), .pure .move, [.t 26], none⟩,
            ⟨(some 28), .pure (.faddr 0), [.t 7], some (27, false)⟩,
            ⟨(some 29), .read (.load none), [.t 28], some (27, false)⟩,
            ⟨(some 30), .pure .lenS, [.t 29], some (27, false)⟩,
            ⟨(some 31), .pure (.bin .gtr), [.t 30, .c (.int .i64 64)], some (27, false)⟩,
            ⟨(some 32), .pure .pick, [.t 27, .c (.bool true), .t 31], none⟩,
            ⟨(some 33), .pure .move, [.t 32], none⟩,
            ⟨(some 34), .pure (.faddr 0), [.t 7], some (33, false)⟩,
            ⟨(some 35), .read (.load none), [.t 34], some (33, false)⟩,
            ⟨(some 36), .pcall 46, [.t 35], some (33, false)⟩,
            ⟨(some 37), .pure (.un .not), [.t 36], some (33, false)⟩,
            ⟨(some 38), .pure .pick, [.t 33, .c (.bool true), .t 37], none⟩])
          (.cond (.t 38)
            (.seq (.ops [⟨(some 2), .pure .move, [.c (.int .i64 1)], none⟩])
            .ret)
            .skip))
          (.seq (.seq (.ops [⟨(some 39), .pure (.faddr 0), [.t 1], none⟩,
            ⟨(some 40), .read (.load none), [.t 39], none⟩,
            ⟨(some 41), .pure .move, [.t 6], none⟩,
            ⟨(some 42), .pure (.sliceL 16 false true false), [.t 40, .t 41], none⟩,
            ⟨(some 43), .pure .lenL, [.t 42], none⟩,
            ⟨(some 44), .pure .move, [.c (.int .i64 0)], none⟩])
          (.block 2
            (.loop [1, 3, 4, 5, 7, 16, 17, 18, 42, 43, 44]
              (.seq (.ops [⟨(some 45), .pure (.bin .lss), [.t 44, .t 43], none⟩])
              (.seq (.cond (.t 45)
                .skip
                (.exit 2))
              (.seq (.block 3
                (.seq (.ops [⟨(some 46), .pure (.iaddrS 16), [.t 42, .t 44], none⟩,
                  ⟨(some 47), .read (.load (some 16)), [.t 46], none⟩,
                  ⟨(some 9), .new (.new 16 [.agg [.str [], .int .i64 0, .int .i64 0, .int .i64 0, .int .i64 0, .str [], .snil 11, .int .i64 0, .int .i64 0, .int .i64 0, .int .i64 0, .int .i64 0, .snil 6, .snil 13, .snil 17, .snil 15]]), [], none⟩,
                  ⟨none, .eff (.store 16), [.t 9, .t 47], none⟩])
                (.seq (.ops [⟨(some 48), .pure (.faddr 0), [.t 9], none⟩,
                  ⟨(some 49), .read (.load none), [.t 48], none⟩,
                  ⟨(some 50), .pure (.faddr 0), [.t 7], none⟩,
                  ⟨(some 51), .read (.load none), [.t 50], none⟩,
                  ⟨(some 52), .pure (.bin .eql), [.t 49, .t 51], none⟩])
                (.cond (.t 52)
                  (.seq (.ops [⟨(some 2), .pure .move, [.c (.int .i64 8)], none⟩])
                  .ret)
                  .skip))))
              (.ops [⟨(some 53), .pure (.bin .add), [.t 44, .c (.int .i64 1)], none⟩,
                ⟨(some 44), .pure .move, [.t 53], none⟩])))))))
          (.seq (.ops [⟨(some 54), .pure .move, [.t 5], none⟩,
            ⟨(some 55), .pure (.faddr 1), [.t 7], none⟩,
            ⟨(some 56), .read (.load (some 15)), [.t 55], none⟩,
            ⟨(some 57), .callv, [.t 54, .t 56], none⟩,
            ⟨(some 10), .pure .move, [.t 57], none⟩])
          (.seq (.ops [⟨(some 58), .pure .move, [.t 10], none⟩,
            ⟨(some 59), .pure (.bin .neq), [.t 58, .c (.int .i64 0)], none⟩])
          (.cond (.t 59)
            (.seq (.ops [⟨(some 60), .pure .move, [.t 10], none⟩,
              ⟨(some 2), .pure .move, [.t 60], none⟩])
            .ret)
            .skip)))))))
        (.ops [⟨(some 61), .pure (.bin .add), [.t 18, .c (.int .i64 1)], none⟩,
          ⟨(some 18), .pure .move, [.t 61], none⟩])))))))
    (.seq (.seq (.ops [⟨(some 62), .pure .move, [.t 5], none⟩,
      ⟨(some 63), .pure (.faddr 1), [.t 1], none⟩,
      ⟨(some 64), .read (.load (some 15)), [.t 63], none⟩,
      ⟨(some 65), .callv, [.t 62, .t 64], none⟩,
      ⟨(some 11), .pure .move, [.t 65], none⟩])
    (.seq (.ops [⟨(some 66), .pure .move, [.t 11], none⟩,
      ⟨(some 67), .pure (.bin .neq), [.t 66, .c (.int .i64 0)], none⟩])
    (.cond (.t 67)
      (.seq (.ops [⟨(some 68), .pure .move, [.t 11], none⟩,
        ⟨(some 2), .pure .move, [.t 68], none⟩])
      .ret)
      .skip)))
    (.seq (.seq (.ops [⟨(some 69), .read (.load none), [.t 3], none⟩])
    (.cond (.t 69)
      (.seq (.ops [⟨(some 2), .pure .move, [.c (.int .i64 9)], none⟩])
      .ret)
      .skip))
    (.seq (.seq (.ops [⟨(some 70), .read (.load none), [.t 4], none⟩,
      ⟨(some 71), .pure (.bin .gtr), [.t 70, .c (.int .i64 1024)], none⟩,
      ⟨(some 72), .pure .move, [.t 71], none⟩,
      ⟨(some 73), .pure (.faddr 0), [.t 1], some (72, false)⟩,
      ⟨(some 74), .read (.load none), [.t 73], some (72, false)⟩,
      ⟨(some 75), .pure .lenL, [.t 74], some (72, false)⟩,
      ⟨(some 76), .pure (.bin .gtr), [.t 75, .c (.int .i64 64)], some (72, false)⟩,
      ⟨(some 77), .pure .pick, [.t 72, .c (.bool true), .t 76], none⟩])
    (.cond (.t 77)
      (.seq (.ops [⟨(some 2), .pure .move, [.c (.int .i64 10)], none⟩])
      .ret)
      .skip))
    (.seq (.seq (.ops [⟨(some 79), .read (.load (some 16)), [.t 1], none⟩,
      ⟨(some 80), .pcall 459, [.t 79], none⟩,
      ⟨(some 78), .pure .move, [.t 80], none⟩,
      ⟨(some 81), .pure (.ext 0), [.t 78], none⟩,
      ⟨(some 82), .pure (.ext 1), [.t 78], none⟩,
      ⟨(some 12), .pure .move, [.t 81], none⟩,
      ⟨(some 13), .pure .move, [.t 82], none⟩])
    (.seq (.ops [⟨(some 83), .pure .move, [.t 13], none⟩,
      ⟨(some 84), .pure (.un .not), [.t 83], none⟩])
    (.cond (.t 84)
      (.seq (.ops [⟨(some 2), .pure .move, [.c (.int .i64 23)], none⟩])
      .ret)
      .skip)))
    (.seq (.ops [⟨(some 2), .pure .move, [.c (.int .i64 0)], none⟩])
    .ret))))))))) }
/-- datakit/schema.Lookup -/
def ac457 : AFn :=
  { nt := 24, res := [.cell 4 (some 15), .tmp 5], body :=
    (.seq (.ops [⟨(some 2), .new (.box 16), [.t 0], none⟩,
      ⟨(some 4), .new (.new 15 [.agg [.int .i64 0, .int .i64 0, .int .i64 0, .int .i64 0, .str [], .snil 11, .int .i64 0, .int .i64 0, .int .i64 0, .int .i64 0, .int .i64 0, .snil 6, .snil 13, .snil 17, .snil 15]]), [], none⟩,
      ⟨(some 5), .pure .move, [.c (.bool false)], none⟩])
    (.seq (.seq (.ops [⟨(some 8), .pure (.faddr 0), [.t 2], none⟩,
      ⟨(some 9), .read (.load none), [.t 8], none⟩,
      ⟨(some 10), .pure .lenL, [.t 9], none⟩,
      ⟨(some 11), .pure .move, [.c (.int .i64 0)], none⟩])
    (.block 0
      (.loop [1, 4, 9, 10, 11]
        (.seq (.ops [⟨(some 12), .pure (.bin .lss), [.t 11, .t 10], none⟩])
        (.seq (.cond (.t 12)
          .skip
          (.exit 0))
        (.seq (.block 1
          (.seq (.ops [⟨(some 13), .pure (.iaddrS 16), [.t 9, .t 11], none⟩,
            ⟨(some 14), .read (.load (some 16)), [.t 13], none⟩,
            ⟨(some 7), .new (.new 16 [.agg [.str [], .int .i64 0, .int .i64 0, .int .i64 0, .int .i64 0, .str [], .snil 11, .int .i64 0, .int .i64 0, .int .i64 0, .int .i64 0, .int .i64 0, .snil 6, .snil 13, .snil 17, .snil 15]]), [], none⟩,
            ⟨none, .eff (.store 16), [.t 7, .t 14], none⟩])
          (.seq (.ops [⟨(some 15), .pure (.faddr 0), [.t 7], none⟩,
            ⟨(some 16), .read (.load none), [.t 15], none⟩,
            ⟨(some 17), .pure .move, [.t 1], none⟩,
            ⟨(some 18), .pure (.bin .eql), [.t 16, .t 17], none⟩])
          (.cond (.t 18)
            (.seq (.ops [⟨(some 19), .pure (.faddr 1), [.t 7], none⟩,
              ⟨(some 20), .read (.load (some 15)), [.t 19], none⟩,
              ⟨(some 21), .pcall 490, [.t 20], none⟩,
              ⟨none, .eff (.store 15), [.t 4, .t 21], none⟩,
              ⟨(some 5), .pure .move, [.c (.bool true)], none⟩])
            .ret)
            .skip))))
        (.ops [⟨(some 22), .pure (.bin .add), [.t 11, .c (.int .i64 1)], none⟩,
          ⟨(some 11), .pure .move, [.t 22], none⟩])))))))
    (.seq (.ops [⟨(some 23), .pure (.build [.int .i64 0, .int .i64 0, .int .i64 0, .int .i64 0, .str [], .snil 11, .int .i64 0, .int .i64 0, .int .i64 0, .int .i64 0, .int .i64 0, .snil 6, .snil 13, .snil 17, .snil 15] []), [], none⟩,
      ⟨none, .eff (.store 15), [.t 4, .t 23], none⟩,
      ⟨(some 5), .pure .move, [.c (.bool false)], none⟩])
    .ret))) }
/-- datakit/schema.Guarded -/
def ac459 : AFn :=
  { nt := 79, res := [.tmp 2, .tmp 3], body :=
    (.seq (.ops [⟨(some 1), .new (.box 16), [.t 0], none⟩,
      ⟨(some 2), .pure .move, [.c (.str [])], none⟩,
      ⟨(some 3), .pure .move, [.c (.bool false)], none⟩])
    (.seq (.ops [⟨(some 14), .new .mkMap, [], none⟩,
      ⟨(some 4), .pure .move, [.t 14], none⟩])
    (.seq (.seq (.ops [⟨(some 15), .pure (.faddr 0), [.t 1], none⟩,
      ⟨(some 16), .read (.load none), [.t 15], none⟩,
      ⟨(some 17), .pure .lenL, [.t 16], none⟩,
      ⟨(some 18), .pure .move, [.c (.int .i64 0)], none⟩])
    (.block 0
      (.loop [1, 4, 16, 17, 18]
        (.seq (.ops [⟨(some 19), .pure (.bin .lss), [.t 18, .t 17], none⟩])
        (.seq (.cond (.t 19)
          .skip
          (.exit 0))
        (.seq (.block 1
          (.seq (.ops [⟨(some 20), .pure (.iaddrS 16), [.t 16, .t 18], none⟩,
            ⟨(some 21), .read (.load (some 16)), [.t 20], none⟩,
            ⟨(some 6), .new (.new 16 [.agg [.str [], .int .i64 0, .int .i64 0, .int .i64 0, .int .i64 0, .str [], .snil 11, .int .i64 0, .int .i64 0, .int .i64 0, .int .i64 0, .int .i64 0, .snil 6, .snil 13, .snil 17, .snil 15]]), [], none⟩,
            ⟨none, .eff (.store 16), [.t 6, .t 21], none⟩])
          (.seq (.ops [⟨(some 23), .pure .move, [.t 4], none⟩,
            ⟨(some 24), .pure (.faddr 0), [.t 6], none⟩,
            ⟨(some 25), .read (.load none), [.t 24], none⟩,
            ⟨(some 26), .read (.lookup (.one .str) (.snil 1) true), [.t 23, .t 25], none⟩,
            ⟨(some 22), .pure .move, [.t 26], none⟩,
            ⟨(some 27), .pure (.ext 0), [.t 22], none⟩,
            ⟨(some 28), .pure (.ext 1), [.t 22], none⟩,
            ⟨(some 7), .pure .move, [.t 27], none⟩,
            ⟨(some 8), .pure .move, [.t 28], none⟩])
          (.seq (.ops [⟨(some 29), .pure .move, [.t 8], none⟩,
            ⟨(some 30), .pure (.un .not), [.t 29], none⟩])
          (.cond (.t 30)
            (.draw 0 [[⟨(some 31), .pure .move, [.t 4], none⟩,
              ⟨(some 32), .pure (.faddr 0), [.t 6], none⟩,
              ⟨(some 34), .pure (.faddr 1), [.t 6], none⟩,
              ⟨(some 35), .read (.load (some 15)), [.t 34], none⟩,
              ⟨(some 33), .read (.load none), [.t 32], none⟩,
              ⟨(some 36), .call 491, [.c (.snil 1), .t 35, .c (.int .i64 48), .c (.bool true)], none⟩,
              ⟨none, .eff (.mapSet (.one .str)), [.t 31, .t 33, .t 36], none⟩],
              [⟨(some 31), .pure .move, [.t 4], none⟩,
              ⟨(some 32), .pure (.faddr 0), [.t 6], none⟩,
              ⟨(some 34), .pure (.faddr 1), [.t 6], none⟩,
              ⟨(some 35), .read (.load (some 15)), [.t 34], none⟩,
              ⟨(some 36), .call 491, [.c (.snil 1), .t 35, .c (.int .i64 48), .c (.bool true)], none⟩,
              ⟨(some 33), .read (.load none), [.t 32], none⟩,
              ⟨none, .eff (.mapSet (.one .str)), [.t 31, .t 33, .t 36], none⟩]])
            .skip)))))
        (.ops [⟨(some 37), .pure (.bin .add), [.t 18, .c (.int .i64 1)], none⟩,
          ⟨(some 18), .pure .move, [.t 37], none⟩])))))))
    (.seq (.seq (.ops [⟨(some 38), .pure (.faddr 0), [.t 1], none⟩,
      ⟨(some 39), .read (.load none), [.t 38], none⟩,
      ⟨(some 40), .pure .lenL, [.t 39], none⟩,
      ⟨(some 41), .pure .move, [.c (.int .i64 0)], none⟩])
    (.block 2
      (.loop [4, 39, 40, 41]
        (.seq (.ops [⟨(some 42), .pure (.bin .lss), [.t 41, .t 40], none⟩])
        (.seq (.cond (.t 42)
          .skip
          (.exit 2))
        (.seq (.block 3
          (.seq (.ops [⟨(some 43), .pure (.iaddrS 16), [.t 39, .t 41], none⟩,
            ⟨(some 44), .read (.load (some 16)), [.t 43], none⟩,
            ⟨(some 10), .new (.new 16 [.agg [.str [], .int .i64 0, .int .i64 0, .int .i64 0, .int .i64 0, .str [], .snil 11, .int .i64 0, .int .i64 0, .int .i64 0, .int .i64 0, .int .i64 0, .snil 6, .snil 13, .snil 17, .snil 15]]), [], none⟩,
            ⟨none, .eff (.store 16), [.t 10, .t 44], none⟩])
          (.seq (.ops [⟨(some 45), .pure .move, [.t 4], none⟩,
            ⟨(some 46), .pure (.faddr 0), [.t 10], none⟩,
            ⟨(some 47), .read (.load none), [.t 46], none⟩,
            ⟨(some 48), .read (.lookup (.one .str) (.snil 1) false), [.t 45, .t 47], none⟩,
            ⟨(some 49), .call 214, [.t 48], none⟩,
            ⟨(some 11), .pure .move, [.t 49], none⟩])
          (.seq (.ops [⟨(some 50), .new .mkMap, [], none⟩,
            ⟨(some 12), .pure .move, [.t 50], none⟩])
          (.block 4
            (.loop [4, 10, 11, 12, 39, 40, 41]
              (.seq (.seq (.ops [⟨(some 51), .pure .move, [.t 11], none⟩,
                ⟨(some 52), .pure .lenL, [.t 51], none⟩,
                ⟨(some 53), .pure (.bin .gtr), [.t 52, .c (.int .i64 0)], none⟩])
              (.cond (.t 53)
                .skip
                (.exit 4)))
              (.block 5
                (.seq (.ops [⟨(some 54), .pure .move, [.t 11], none⟩,
                  ⟨(some 55), .pure (.iaddrS 1), [.t 54, .c (.int .i64 0)], none⟩,
                  ⟨(some 56), .read (.load none), [.t 55], none⟩,
                  ⟨(some 13), .pure .move, [.t 56], none⟩])
                (.seq (.ops [⟨(some 57), .pure .move, [.t 11], none⟩,
                  ⟨(some 58), .pure (.sliceL 1 true false false), [.t 57, .c (.int .i64 1)], none⟩,
                  ⟨(some 11), .pure .move, [.t 58], none⟩])
                (.seq (.seq (.ops [⟨(some 59), .pure .move, [.t 13], none⟩,
                  ⟨(some 60), .pure (.faddr 0), [.t 10], none⟩,
                  ⟨(some 61), .read (.load none), [.t 60], none⟩,
                  ⟨(some 62), .pure (.bin .eql), [.t 59, .t 61], none⟩])
                (.cond (.t 62)
                  (.seq (.ops [⟨(some 63), .pure (.faddr 0), [.t 10], none⟩,
                    ⟨(some 64), .read (.load none), [.t 63], none⟩,
                    ⟨(some 2), .pure .move, [.t 64], none⟩,
                    ⟨(some 3), .pure .move, [.c (.bool false)], none⟩])
                  .ret)
                  .skip))
                (.seq (.ops [⟨(some 65), .pure .move, [.t 12], none⟩,
                  ⟨(some 66), .pure .move, [.t 13], none⟩,
                  ⟨(some 67), .read (.lookup (.one .str) (.int .i64 0) false), [.t 65, .t 66], none⟩,
                  ⟨(some 68), .pure (.bin .add), [.t 67, .c (.int .i64 1)], none⟩,
                  ⟨none, .eff (.mapSet (.one .str)), [.t 65, .t 66, .t 68], none⟩])
                (.seq (.ops [⟨(some 69), .pure .move, [.t 12], none⟩,
                  ⟨(some 70), .pure .move, [.t 13], none⟩,
                  ⟨(some 71), .read (.lookup (.one .str) (.int .i64 0) false), [.t 69, .t 70], none⟩,
                  ⟨(some 72), .pure (.bin .eql), [.t 71, .c (.int .i64 1)], none⟩])
                (.cond (.t 72)
                  (.ops [⟨(some 73), .pure .move, [.t 11], none⟩,
                    ⟨(some 74), .pure .move, [.t 4], none⟩,
                    ⟨(some 75), .pure .move, [.t 13], none⟩,
                    ⟨(some 76), .read (.lookup (.one .str) (.snil 1) false), [.t 74, .t 75], none⟩,
                    ⟨(some 77), .eff (.append 1 16), [.t 73, .t 76], none⟩,
                    ⟨(some 11), .pure .move, [.t 77], none⟩])
                  .skip))))))))))))))
        (.ops [⟨(some 78), .pure (.bin .add), [.t 41, .c (.int .i64 1)], none⟩,
          ⟨(some 41), .pure .move, [.t 78], none⟩])))))))
    (.seq (.ops [⟨(some 2), .pure .move, [.c (.str [])], none⟩,
      ⟨(some 3), .pure .move, [.c (.bool true)], none⟩])
    .ret))))) }
/-- datakit/datakitlaw46.awake -/
def ac469 : AFn :=
  { nt := 132, res := [.tmp 0], body :=
    (.seq (.ops [⟨(some 0), .pure .move, [.c (.bool false)], none⟩])
    (.seq (.ops [⟨(some 18), .pure (.build [.int .i64 0, .int .i64 0, .int .i64 0, .int .i64 0, .str [], .snil 11, .int .i64 0, .int .i64 0, .int .i64 0, .int .i64 0, .int .i64 0, .snil 6, .snil 13, .snil 17, .snil 15] [(0, 1), (4, 1)]), [.c (.int .i64 14), .c (.str [116, 114, 101, 101])], none⟩,
      ⟨(some 1), .new (.new 15 [.agg [.int .i64 0, .int .i64 0, .int .i64 0, .int .i64 0, .str [], .snil 11, .int .i64 0, .int .i64 0, .int .i64 0, .int .i64 0, .int .i64 0, .snil 6, .snil 13, .snil 17, .snil 15]]), [], none⟩,
      ⟨none, .eff (.store 15), [.t 1, .t 18], none⟩])
    (.seq (.ops [⟨(some 19), .read (.load (some 15)), [.t 1], none⟩,
      ⟨(some 20), .pure (.build [.str [], .bool false, .int .i64 0, .int .i64 0, .int .i64 0, .int .i64 0, .str [], .snil 11, .int .i64 0, .int .i64 0, .int .i64 0, .int .i64 0, .int .i64 0, .snil 6, .snil 13, .snil 17, .snil 15] [(0, 1), (2, 15)]), [.c (.str [108, 101, 102, 116]), .t 19], none⟩,
      ⟨(some 21), .read (.load (some 15)), [.t 1], none⟩,
      ⟨(some 22), .pure (.build [.str [], .bool false, .int .i64 0, .int .i64 0, .int .i64 0, .int .i64 0, .str [], .snil 11, .int .i64 0, .int .i64 0, .int .i64 0, .int .i64 0, .int .i64 0, .snil 6, .snil 13, .snil 17, .snil 15] [(0, 1), (2, 15)]), [.c (.str [114, 105, 103, 104, 116]), .t 21], none⟩,
      ⟨(some 23), .new (.buildSlice 17 [.agg [.str [], .bool false, .int .i64 0, .int .i64 0, .int .i64 0, .int .i64 0, .str [], .snil 11, .int .i64 0, .int .i64 0, .int .i64 0, .int .i64 0, .int .i64 0, .snil 6, .snil 13, .snil 17, .snil 15], .agg [.str [], .bool false, .int .i64 0, .int .i64 0, .int .i64 0, .int .i64 0, .str [], .snil 11, .int .i64 0, .int .i64 0, .int .i64 0, .int .i64 0, .int .i64 0, .snil 6, .snil 13, .snil 17, .snil 15]] [0, 1]), [.t 20, .t 22], none⟩,
      ⟨(some 24), .pure (.build [.int .i64 0, .int .i64 0, .int .i64 0, .int .i64 0, .str [], .snil 11, .int .i64 0, .int .i64 0, .int .i64 0, .int .i64 0, .int .i64 0, .snil 6, .snil 13, .snil 17, .snil 15] [(0, 1)]), [.c (.int .i64 2)], none⟩,
      ⟨(some 25), .new (.buildSlice 15 [.agg [.int .i64 0, .int .i64 0, .int .i64 0, .int .i64 0, .str [], .snil 11, .int .i64 0, .int .i64 0, .int .i64 0, .int .i64 0, .int .i64 0, .snil 6, .snil 13, .snil 17, .snil 15]] [0]), [.t 24], none⟩,
      ⟨(some 26), .pure (.build [.int .i64 0, .int .i64 0, .int .i64 0, .int .i64 0, .str [], .snil 11, .int .i64 0, .int .i64 0, .int .i64 0, .int .i64 0, .int .i64 0, .snil 6, .snil 13, .snil 17, .snil 15] [(0, 1), (13, 1), (14, 1)]), [.c (.int .i64 10), .t 23, .t 25], none⟩,
      ⟨(some 2), .new (.new 15 [.agg [.int .i64 0, .int .i64 0, .int .i64 0, .int .i64 0, .str [], .snil 11, .int .i64 0, .int .i64 0, .int .i64 0, .int .i64 0, .int .i64 0, .snil 6, .snil 13, .snil 17, .snil 15]]), [], none⟩,
      ⟨none, .eff (.store 15), [.t 2, .t 26], none⟩])
    (.seq (.ops [⟨(some 27), .read (.load (some 15)), [.t 2], none⟩,
      ⟨(some 28), .pure (.build [.str [], .int .i64 0, .int .i64 0, .int .i64 0, .int .i64 0, .str [], .snil 11, .int .i64 0, .int .i64 0, .int .i64 0, .int .i64 0, .int .i64 0, .snil 6, .snil 13, .snil 17, .snil 15] [(0, 1), (1, 15)]), [.c (.str [116, 114, 101, 101]), .t 27], none⟩,
      ⟨(some 29), .new (.buildSlice 16 [.agg [.str [], .int .i64 0, .int .i64 0, .int .i64 0, .int .i64 0, .str [], .snil 11, .int .i64 0, .int .i64 0, .int .i64 0, .int .i64 0, .int .i64 0, .snil 6, .snil 13, .snil 17, .snil 15]] [0]), [.t 28], none⟩,
      ⟨(some 30), .read (.load (some 15)), [.t 1], none⟩,
      ⟨(some 31), .pure (.build [.snil 16, .int .i64 0, .int .i64 0, .int .i64 0, .int .i64 0, .str [], .snil 11, .int .i64 0, .int .i64 0, .int .i64 0, .int .i64 0, .int .i64 0, .snil 6, .snil 13, .snil 17, .snil 15] [(0, 1), (1, 15)]), [.t 29, .t 30], none⟩,
      ⟨(some 3), .new (.new 16 [.agg [.snil 16, .int .i64 0, .int .i64 0, .int .i64 0, .int .i64 0, .str [], .snil 11, .int .i64 0, .int .i64 0, .int .i64 0, .int .i64 0, .int .i64 0, .snil 6, .snil 13, .snil 17, .snil 15]]), [], none⟩,
      ⟨none, .eff (.store 16), [.t 3, .t 31], none⟩])
    (.seq (.draw 2 [[⟨(some 33), .read (.load (some 16)), [.t 3], none⟩,
      ⟨(some 34), .pcall 502, [.c (.snil 14)], none⟩,
      ⟨(some 35), .pure (.build [.str [], .int .i64 0, .bool false, .bool false, .str [], .int .i64 0, .int .i64 0, .int .i64 0, .int .i64 0, .int .i64 0, .str [], .snil 1, .snil 13, .snil 14] [(0, 1), (1, 13)]), [.c (.str [108, 101, 102, 116]), .t 34], none⟩,
      ⟨(some 36), .pcall 502, [.c (.snil 14)], none⟩,
      ⟨(some 37), .pure (.build [.str [], .int .i64 0, .bool false, .bool false, .str [], .int .i64 0, .int .i64 0, .int .i64 0, .int .i64 0, .int .i64 0, .str [], .snil 1, .snil 13, .snil 14] [(0, 1), (1, 13)]), [.c (.str [108, 101, 102, 116]), .t 36], none⟩,
      ⟨(some 38), .newAt 0 (.buildSlice 14 [.agg [.str [], .int .i64 0, .bool false, .bool false, .str [], .int .i64 0, .int .i64 0, .int .i64 0, .int .i64 0, .int .i64 0, .str [], .snil 1, .snil 13, .snil 14]] [0]), [.t 37], none⟩,
      ⟨(some 39), .pcall 502, [.t 38], none⟩,
      ⟨(some 40), .pure (.build [.str [], .int .i64 0, .bool false, .bool false, .str [], .int .i64 0, .int .i64 0, .int .i64 0, .int .i64 0, .int .i64 0, .str [], .snil 1, .snil 13, .snil 14] [(0, 1), (1, 13)]), [.c (.str [114, 105, 103, 104, 116]), .t 39], none⟩,
      ⟨(some 41), .newAt 1 (.buildSlice 14 [.agg [.str [], .int .i64 0, .bool false, .bool false, .str [], .int .i64 0, .int .i64 0, .int .i64 0, .int .i64 0, .int .i64 0, .str [], .snil 1, .snil 13, .snil 14], .agg [.str [], .int .i64 0, .bool false, .bool false, .str [], .int .i64 0, .int .i64 0, .int .i64 0, .int .i64 0, .int .i64 0, .str [], .snil 1, .snil 13, .snil 14]] [0, 1]), [.t 35, .t 40], none⟩,
      ⟨(some 42), .pcall 502, [.t 41], none⟩,
      ⟨(some 43), .pcall 472, [.t 33, .t 42], none⟩,
      ⟨(some 32), .pure .move, [.t 43], none⟩,
      ⟨(some 44), .pure (.ext 0), [.t 32], none⟩,
      ⟨(some 45), .pure (.ext 1), [.t 32], none⟩,
      ⟨(some 4), .pure .move, [.t 44], none⟩,
      ⟨(some 5), .pure .move, [.t 45], none⟩]])
    (.seq (.draw 1 [[⟨(some 47), .read (.load (some 16)), [.t 3], none⟩,
      ⟨(some 48), .pcall 503, [.c (.int .i64 1)], none⟩,
      ⟨(some 49), .pure (.build [.str [], .int .i64 0, .bool false, .bool false, .str [], .int .i64 0, .int .i64 0, .int .i64 0, .int .i64 0, .int .i64 0, .str [], .snil 1, .snil 13, .snil 14] [(0, 1), (1, 13)]), [.c (.str [108, 101, 102, 116]), .t 48], none⟩,
      ⟨(some 50), .newAt 0 (.buildSlice 14 [.agg [.str [], .int .i64 0, .bool false, .bool false, .str [], .int .i64 0, .int .i64 0, .int .i64 0, .int .i64 0, .int .i64 0, .str [], .snil 1, .snil 13, .snil 14]] [0]), [.t 49], none⟩,
      ⟨(some 51), .pcall 502, [.t 50], none⟩,
      ⟨(some 52), .pcall 472, [.t 47, .t 51], none⟩,
      ⟨(some 46), .pure .move, [.t 52], none⟩,
      ⟨(some 53), .pure (.ext 0), [.t 46], none⟩,
      ⟨(some 54), .pure (.ext 1), [.t 46], none⟩,
      ⟨(some 6), .pure .move, [.t 53], none⟩,
      ⟨(some 7), .pure .move, [.t 54], none⟩]])
    (.seq (.draw 1 [[⟨(some 56), .read (.load (some 16)), [.t 3], none⟩,
      ⟨(some 57), .pcall 502, [.c (.snil 14)], none⟩,
      ⟨(some 58), .pure (.build [.str [], .int .i64 0, .bool false, .bool false, .str [], .int .i64 0, .int .i64 0, .int .i64 0, .int .i64 0, .int .i64 0, .str [], .snil 1, .snil 13, .snil 14] [(0, 1), (1, 13)]), [.c (.str [120]), .t 57], none⟩,
      ⟨(some 59), .newAt 0 (.buildSlice 14 [.agg [.str [], .int .i64 0, .bool false, .bool false, .str [], .int .i64 0, .int .i64 0, .int .i64 0, .int .i64 0, .int .i64 0, .str [], .snil 1, .snil 13, .snil 14]] [0]), [.t 58], none⟩,
      ⟨(some 60), .pcall 502, [.t 59], none⟩,
      ⟨(some 61), .pcall 472, [.t 56, .t 60], none⟩,
      ⟨(some 55), .pure .move, [.t 61], none⟩,
      ⟨(some 62), .pure (.ext 0), [.t 55], none⟩,
      ⟨(some 63), .pure (.ext 1), [.t 55], none⟩,
      ⟨(some 8), .pure .move, [.t 62], none⟩,
      ⟨(some 9), .pure .move, [.t 63], none⟩]])
    (.seq (.ops [⟨(some 64), .pure (.build [.int .i64 0, .int .i64 0, .int .i64 0, .int .i64 0, .str [], .snil 11, .int .i64 0, .int .i64 0, .int .i64 0, .int .i64 0, .int .i64 0, .snil 6, .snil 13, .snil 17, .snil 15] [(0, 1), (2, 1), (3, 1)]), [.c (.int .i64 5), .c (.int .i64 1), .c (.int .i64 1)], none⟩,
      ⟨(some 10), .new (.new 15 [.agg [.int .i64 0, .int .i64 0, .int .i64 0, .int .i64 0, .str [], .snil 11, .int .i64 0, .int .i64 0, .int .i64 0, .int .i64 0, .int .i64 0, .snil 6, .snil 13, .snil 17, .snil 15]]), [], none⟩,
      ⟨none, .eff (.store 15), [.t 10, .t 64], none⟩])
    (.seq (.ops [⟨(some 66), .pure (.build [.snil 16, .int .i64 0, .int .i64 0, .int .i64 0, .int .i64 0, .str [], .snil 11, .int .i64 0, .int .i64 0, .int .i64 0, .int .i64 0, .int .i64 0, .snil 6, .snil 13, .snil 17, .snil 15] []), [], none⟩,
      ⟨(some 67), .read (.load (some 15)), [.t 10], none⟩,
      ⟨(some 68), .pcall 504, [.c (.str [195, 169])], none⟩,
      ⟨(some 69), .pcall 470, [.t 66, .t 67, .t 68], none⟩,
      ⟨(some 65), .pure .move, [.t 69], none⟩,
      ⟨(some 70), .pure (.ext 0), [.t 65], none⟩,
      ⟨(some 71), .pure (.ext 1), [.t 65], none⟩,
      ⟨(some 11), .pure .move, [.t 70], none⟩,
      ⟨(some 12), .pure .move, [.t 71], none⟩])
    (.seq (.ops [⟨(some 73), .pure (.build [.snil 16, .int .i64 0, .int .i64 0, .int .i64 0, .int .i64 0, .str [], .snil 11, .int .i64 0, .int .i64 0, .int .i64 0, .int .i64 0, .int .i64 0, .snil 6, .snil 13, .snil 17, .snil 15] []), [], none⟩,
      ⟨(some 74), .read (.load (some 15)), [.t 10], none⟩,
      ⟨(some 75), .pcall 504, [.c (.str [97, 98])], none⟩,
      ⟨(some 76), .pcall 470, [.t 73, .t 74, .t 75], none⟩,
      ⟨(some 72), .pure .move, [.t 76], none⟩,
      ⟨(some 77), .pure (.ext 0), [.t 72], none⟩,
      ⟨(some 78), .pure (.ext 1), [.t 72], none⟩,
      ⟨(some 13), .pure .move, [.t 77], none⟩,
      ⟨(some 14), .pure .move, [.t 78], none⟩])
    (.seq (.ops [⟨(some 79), .pure (.build [.int .i64 0, .int .i64 0, .int .i64 0, .int .i64 0, .str [], .snil 11, .int .i64 0, .int .i64 0, .int .i64 0, .int .i64 0, .int .i64 0, .snil 6, .snil 13, .snil 17, .snil 15] [(0, 1)]), [.c (.int .i64 4)], none⟩,
      ⟨(some 80), .new (.buildSlice 15 [.agg [.int .i64 0, .int .i64 0, .int .i64 0, .int .i64 0, .str [], .snil 11, .int .i64 0, .int .i64 0, .int .i64 0, .int .i64 0, .int .i64 0, .snil 6, .snil 13, .snil 17, .snil 15]] [0]), [.t 79], none⟩,
      ⟨(some 81), .pure (.build [.int .i64 0, .int .i64 0, .int .i64 0, .int .i64 0, .str [], .snil 11, .int .i64 0, .int .i64 0, .int .i64 0, .int .i64 0, .int .i64 0, .snil 6, .snil 13, .snil 17, .snil 15] [(0, 1), (14, 1)]), [.c (.int .i64 13), .t 80], none⟩,
      ⟨(some 15), .new (.new 15 [.agg [.int .i64 0, .int .i64 0, .int .i64 0, .int .i64 0, .str [], .snil 11, .int .i64 0, .int .i64 0, .int .i64 0, .int .i64 0, .int .i64 0, .snil 6, .snil 13, .snil 17, .snil 15]]), [], none⟩,
      ⟨none, .eff (.store 15), [.t 15, .t 81], none⟩])
    (.seq (.ops [⟨(some 83), .pure (.build [.snil 16, .int .i64 0, .int .i64 0, .int .i64 0, .int .i64 0, .str [], .snil 11, .int .i64 0, .int .i64 0, .int .i64 0, .int .i64 0, .int .i64 0, .snil 6, .snil 13, .snil 17, .snil 15] []), [], none⟩,
      ⟨(some 84), .read (.load (some 15)), [.t 15], none⟩,
      ⟨(some 85), .pcall 503, [.c (.int .i64 1)], none⟩,
      ⟨(some 86), .pcall 470, [.t 83, .t 84, .t 85], none⟩,
      ⟨(some 82), .pure .move, [.t 86], none⟩,
      ⟨(some 87), .pure (.ext 0), [.t 82], none⟩,
      ⟨(some 88), .pure (.ext 1), [.t 82], none⟩,
      ⟨(some 16), .pure .move, [.t 87], none⟩,
      ⟨(some 17), .pure .move, [.t 88], none⟩])
    (.seq (.ops [⟨(some 89), .pure .move, [.t 4], none⟩,
      ⟨(some 90), .pure .move, [.t 89], none⟩,
      ⟨(some 91), .pure .move, [.t 6], some (90, true)⟩,
      ⟨(some 92), .pure (.un .not), [.t 91], some (90, true)⟩,
      ⟨(some 93), .pure .pick, [.t 90, .t 92, .c (.bool false)], none⟩,
      ⟨(some 94), .pure .move, [.t 93], none⟩,
      ⟨(some 95), .pure .move, [.t 8], some (94, true)⟩,
      ⟨(some 96), .pure (.un .not), [.t 95], some (94, true)⟩,
      ⟨(some 97), .pure .pick, [.t 94, .t 96, .c (.bool false)], none⟩,
      ⟨(some 98), .pure .move, [.t 97], none⟩,
      ⟨(some 99), .pure .move, [.t 11], some (98, true)⟩,
      ⟨(some 100), .pure .pick, [.t 98, .t 99, .c (.bool false)], none⟩,
      ⟨(some 101), .pure .move, [.t 100], none⟩,
      ⟨(some 102), .pure .move, [.t 13], some (101, true)⟩,
      ⟨(some 103), .pure (.un .not), [.t 102], some (101, true)⟩,
      ⟨(some 104), .pure .pick, [.t 101, .t 103, .c (.bool false)], none⟩,
      ⟨(some 105), .pure .move, [.t 104], none⟩,
      ⟨(some 106), .pure .move, [.t 16], some (105, true)⟩,
      ⟨(some 107), .pure .pick, [.t 105, .t 106, .c (.bool false)], none⟩,
      ⟨(some 108), .pure .move, [.t 107], none⟩,
      ⟨(some 109), .pure .move, [.t 5], some (108, true)⟩,
      ⟨(some 110), .pure (.bin .eql), [.t 109, .c (.int .i64 0)], some (108, true)⟩,
      ⟨(some 111), .pure .pick, [.t 108, .t 110, .c (.bool false)], none⟩,
      ⟨(some 112), .pure .move, [.t 111], none⟩,
      ⟨(some 113), .pure .move, [.t 7], some (112, true)⟩,
      ⟨(some 114), .pure (.bin .eql), [.t 113, .c (.int .i64 0)], some (112, true)⟩,
      ⟨(some 115), .pure .pick, [.t 112, .t 114, .c (.bool false)], none⟩,
      ⟨(some 116), .pure .move, [.t 115], none⟩,
      ⟨(some 117), .pure .move, [.t 9], some (116, true)⟩,
      ⟨(some 118), .pure (.bin .eql), [.t 117, .c (.int .i64 0)], some (116, true)⟩,
      ⟨(some 119), .pure .pick, [.t 116, .t 118, .c (.bool false)], none⟩,
      ⟨(some 120), .pure .move, [.t 119], none⟩,
      ⟨(some 121), .pure .move, [.t 12], some (120, true)⟩,
      ⟨(some 122), .pure (.bin .eql), [.t 121, .c (.int .i64 0)], some (120, true)⟩,
      ⟨(some 123), .pure .pick, [.t 120, .t 122, .c (.bool false)], none⟩,
      ⟨(some 124), .pure .move, [.t 123], none⟩,
      ⟨(some 125), .pure .move, [.t 14], some (124, true)⟩,
      ⟨(some 126), .pure (.bin .eql), [.t 125, .c (.int .i64 0)], some (124, true)⟩,
      ⟨(some 127), .pure .pick, [.t 124, .t 126, .c (.bool false)], none⟩,
      ⟨(some 128), .pure .move, [.t 127], none⟩,
      ⟨(some 129), .pure .move, [.t 17], some (128, true)⟩,
      ⟨(some 130), .pure (.bin .eql), [.t 129, .c (.int .i64 0)], some (128, true)⟩,
      ⟨(some 131), .pure .pick, [.t 128, .t 130, .c (.bool false)], none⟩,
      ⟨(some 0), .pure .move, [.t 131], none⟩])
    .ret))))))))))))) }
/-- datakit/validate.Match -/
def ac470 : AFn :=
  { nt := 27, res := [.tmp 6, .tmp 7], body :=
    (.seq (.ops [⟨(some 3), .new (.box 16), [.t 0], none⟩,
      ⟨(some 4), .new (.box 15), [.t 1], none⟩,
      ⟨(some 5), .new (.box 13), [.t 2], none⟩,
      ⟨(some 6), .pure .move, [.c (.bool false)], none⟩,
      ⟨(some 7), .pure .move, [.c (.int .i64 0)], none⟩])
    (.seq (.seq (.ops [⟨(some 10), .pure (.faddr 0), [.t 3], none⟩,
      ⟨(some 11), .read (.load none), [.t 10], none⟩,
      ⟨(some 12), .read (.load (some 15)), [.t 4], none⟩,
      ⟨(some 13), .pure (.build [.snil 16, .int .i64 0, .int .i64 0, .int .i64 0, .int .i64 0, .str [], .snil 11, .int .i64 0, .int .i64 0, .int .i64 0, .int .i64 0, .int .i64 0, .snil 6, .snil 13, .snil 17, .snil 15] [(0, 1), (1, 15)]), [.t 11, .t 12], none⟩,
      ⟨(some 14), .pcall 454, [.t 13], none⟩,
      ⟨(some 8), .pure .move, [.t 14], none⟩])
    (.seq (.ops [⟨(some 15), .pure .move, [.t 8], none⟩,
      ⟨(some 16), .pure (.bin .neq), [.t 15, .c (.int .i64 0)], none⟩])
    (.cond (.t 16)
      (.seq (.ops [⟨(some 17), .pure .move, [.t 8], none⟩,
        ⟨(some 6), .pure .move, [.c (.bool false)], none⟩,
        ⟨(some 7), .pure .move, [.t 17], none⟩])
      .ret)
      .skip)))
    (.seq (.seq (.ops [⟨(some 18), .read (.load (some 13)), [.t 5], none⟩,
      ⟨(some 19), .pcall 126, [.t 18], none⟩,
      ⟨(some 9), .pure .move, [.t 19], none⟩])
    (.seq (.ops [⟨(some 20), .pure .move, [.t 9], none⟩,
      ⟨(some 21), .pure (.bin .neq), [.t 20, .c (.int .i64 0)], none⟩])
    (.cond (.t 21)
      (.seq (.ops [⟨(some 22), .pure .move, [.t 9], none⟩,
        ⟨(some 6), .pure .move, [.c (.bool false)], none⟩,
        ⟨(some 7), .pure .move, [.t 22], none⟩])
      .ret)
      .skip)))
    (.seq (.ops [⟨(some 23), .read (.load (some 16)), [.t 3], none⟩,
      ⟨(some 24), .read (.load (some 15)), [.t 4], none⟩,
      ⟨(some 25), .read (.load (some 13)), [.t 5], none⟩,
      ⟨(some 26), .pcall 505, [.t 23, .t 24, .t 25], none⟩,
      ⟨(some 6), .pure .move, [.t 26], none⟩,
      ⟨(some 7), .pure .move, [.c (.int .i64 0)], none⟩])
    .ret)))) }
/-- datakit/validate.Valid -/
def ac472 : AFn :=
  { nt := 13, res := [.tmp 4, .tmp 5], body :=
    (.seq (.ops [⟨(some 2), .new (.box 16), [.t 0], none⟩,
      ⟨(some 3), .new (.box 13), [.t 1], none⟩,
      ⟨(some 4), .pure .move, [.c (.bool false)], none⟩,
      ⟨(some 5), .pure .move, [.c (.int .i64 0)], none⟩])
    (.seq (.ops [⟨(some 6), .read (.load (some 16)), [.t 2], none⟩,
      ⟨(some 7), .pure (.faddr 1), [.t 2], none⟩,
      ⟨(some 8), .read (.load (some 15)), [.t 7], none⟩,
      ⟨(some 9), .read (.load (some 13)), [.t 3], none⟩,
      ⟨(some 10), .pcall 470, [.t 6, .t 8, .t 9], none⟩,
      ⟨(some 11), .pure (.ext 0), [.t 10], none⟩,
      ⟨(some 12), .pure (.ext 1), [.t 10], none⟩,
      ⟨(some 4), .pure .move, [.t 11], none⟩,
      ⟨(some 5), .pure .move, [.t 12], none⟩])
    .ret)) }
/-- datakit/validate.Dispatch -/
def ac477 : AFn :=
  { nt := 58, res := [.tmp 4], body :=
    (.seq (.ops [⟨(some 2), .new (.box 15), [.t 0], none⟩,
      ⟨(some 4), .pure .move, [.c (.bool false)], none⟩])
    (.seq (.seq (.ops [⟨(some 7), .pure .move, [.t 1], none⟩,
      ⟨(some 8), .pure (.bin .lss), [.t 7, .c (.int .i64 0)], none⟩,
      ⟨(some 9), .pure .move, [.t 8], none⟩,
      ⟨(some 10), .pure .move, [.t 1], some (9, false)⟩,
      ⟨(some 11), .pure (.bin .gtr), [.t 10, .c (.int .i64 7)], some (9, false)⟩,
      ⟨(some 12), .pure .pick, [.t 9, .c (.bool true), .t 11], none⟩])
    (.cond (.t 12)
      (.seq (.ops [⟨(some 4), .pure .move, [.c (.bool false)], none⟩])
      .ret)
      .skip))
    (.seq (.seq (.ops [⟨(some 13), .pure (.faddr 0), [.t 2], none⟩,
      ⟨(some 14), .read (.load none), [.t 13], none⟩])
    (.block 0
      (.seq (.ops [⟨(some 16), .pure (.bin .eql), [.t 14, .c (.int .i64 1)], none⟩,
        ⟨(some 15), .pure .move, [.t 16], none⟩])
      (.cond (.t 15)
        (.seq (.ops [⟨(some 4), .pure .move, [.c (.bool true)], none⟩])
        .ret)
        (.seq (.ops [⟨(some 18), .pure (.bin .eql), [.t 14, .c (.int .i64 3)], none⟩,
          ⟨(some 17), .pure .move, [.t 18], none⟩])
        (.cond (.t 17)
          (.seq (.ops [⟨(some 19), .pure (.faddr 1), [.t 2], none⟩,
            ⟨(some 20), .read (.load none), [.t 19], none⟩,
            ⟨(some 21), .pure .move, [.t 1], none⟩,
            ⟨(some 22), .pure (.conv .u64), [.t 21], none⟩,
            ⟨(some 23), .pure (.bin .shr), [.t 20, .t 22], none⟩,
            ⟨(some 24), .pure (.bin .and), [.t 23, .c (.int .i64 1)], none⟩,
            ⟨(some 25), .pure (.bin .eql), [.t 24, .c (.int .i64 1)], none⟩,
            ⟨(some 4), .pure .move, [.t 25], none⟩])
          .ret)
          (.seq (.ops [⟨(some 27), .pure (.bin .eql), [.t 14, .c (.int .i64 4)], none⟩,
            ⟨(some 26), .pure .move, [.t 27], none⟩])
          (.cond (.t 26)
            (.seq (.ops [⟨(some 28), .pure .move, [.t 1], none⟩,
              ⟨(some 29), .pure (.bin .eql), [.t 28, .c (.int .i64 2)], none⟩,
              ⟨(some 4), .pure .move, [.t 29], none⟩])
            .ret)
            (.seq (.seq (.ops [⟨(some 31), .pure (.bin .eql), [.t 14, .c (.int .i64 5)], none⟩,
              ⟨(some 30), .pure .move, [.t 31], none⟩])
            (.cond (.t 30)
              .skip
              (.seq (.ops [⟨(some 32), .pure (.bin .eql), [.t 14, .c (.int .i64 6)], none⟩,
                ⟨(some 30), .pure .move, [.t 32], none⟩])
              (.cond (.t 30)
                .skip
                (.ops [⟨(some 33), .pure (.bin .eql), [.t 14, .c (.int .i64 7)], none⟩,
                  ⟨(some 30), .pure .move, [.t 33], none⟩])))))
            (.cond (.t 30)
              (.seq (.ops [⟨(some 34), .pure .move, [.t 1], none⟩,
                ⟨(some 35), .pure (.bin .eql), [.t 34, .c (.int .i64 4)], none⟩,
                ⟨(some 4), .pure .move, [.t 35], none⟩])
              .ret)
              (.seq (.ops [⟨(some 37), .pure (.bin .eql), [.t 14, .c (.int .i64 8)], none⟩,
                ⟨(some 36), .pure .move, [.t 37], none⟩])
              (.cond (.t 36)
                (.seq (.ops [⟨(some 38), .pure (.faddr 12), [.t 2], none⟩,
                  ⟨(some 39), .read (.load none), [.t 38], none⟩,
                  ⟨(some 40), .pure .lenL, [.t 39], none⟩,
                  ⟨(some 41), .pure .move, [.c (.int .i64 0)], none⟩])
                (.block 1
                  (.loop [1, 39, 40, 41]
                    (.seq (.ops [⟨(some 42), .pure (.bin .lss), [.t 41, .t 40], none⟩])
                    (.seq (.cond (.t 42)
                      .skip
                      (.exit 1))
                    (.seq (.block 2
                      (.seq (.ops [⟨(some 43), .pure (.iaddrS 13), [.t 39, .t 41], none⟩,
                        ⟨(some 44), .read (.load (some 13)), [.t 43], none⟩,
                        ⟨(some 6), .new (.new 13 [.agg [.int .i64 0, .bool false, .bool false, .str [], .int .i64 0, .int .i64 0, .int .i64 0, .int .i64 0, .int .i64 0, .str [], .snil 1, .snil 13, .snil 14]]), [], none⟩,
                        ⟨none, .eff (.store 13), [.t 6, .t 44], none⟩])
                      (.seq (.ops [⟨(some 45), .pure (.faddr 0), [.t 6], none⟩,
                        ⟨(some 46), .read (.load none), [.t 45], none⟩,
                        ⟨(some 47), .pure .move, [.t 1], none⟩,
                        ⟨(some 48), .pure (.bin .eql), [.t 46, .t 47], none⟩])
                      (.cond (.t 48)
                        (.seq (.ops [⟨(some 4), .pure .move, [.c (.bool true)], none⟩])
                        .ret)
                        .skip))))
                    (.ops [⟨(some 49), .pure (.bin .add), [.t 41, .c (.int .i64 1)], none⟩,
                      ⟨(some 41), .pure .move, [.t 49], none⟩])))))))
                (.seq (.ops [⟨(some 51), .pure (.bin .eql), [.t 14, .c (.int .i64 9)], none⟩,
                  ⟨(some 50), .pure .move, [.t 51], none⟩])
                (.cond (.t 50)
                  (.seq (.ops [⟨(some 52), .pure .move, [.t 1], none⟩,
                    ⟨(some 53), .pure (.bin .eql), [.t 52, .c (.int .i64 6)], none⟩,
                    ⟨(some 4), .pure .move, [.t 53], none⟩])
                  .ret)
                  (.seq (.ops [⟨(some 55), .pure (.bin .eql), [.t 14, .c (.int .i64 10)], none⟩,
                    ⟨(some 54), .pure .move, [.t 55], none⟩])
                  (.cond (.t 54)
                    (.seq (.ops [⟨(some 56), .pure .move, [.t 1], none⟩,
                      ⟨(some 57), .pure (.bin .eql), [.t 56, .c (.int .i64 7)], none⟩,
                      ⟨(some 4), .pure .move, [.t 57], none⟩])
                    .ret)
                    .skip))))))))))))))))
    (.seq (.ops [⟨(some 4), .pure .move, [.c (.bool false)], none⟩])
    .ret)))) }
/-- datakit/datakitref46.Dispatch -/
def ac478 : AFn :=
  { nt := 59, res := [.tmp 4], body :=
    (.seq (.ops [⟨(some 2), .new (.box 15), [.t 0], none⟩,
      ⟨(some 4), .pure .move, [.c (.bool false)], none⟩])
    (.seq (.seq (.ops [⟨(some 6), .pure .move, [.t 1], none⟩,
      ⟨(some 7), .pure (.bin .lss), [.t 6, .c (.int .i64 0)], none⟩,
      ⟨(some 8), .pure .move, [.t 7], none⟩,
      ⟨(some 9), .pure .move, [.t 1], some (8, false)⟩,
      ⟨(some 10), .pure (.bin .geq), [.t 9, .c (.int .i64 8)], some (8, false)⟩,
      ⟨(some 11), .pure .pick, [.t 8, .c (.bool true), .t 10], none⟩])
    (.cond (.t 11)
      (.seq (.ops [⟨(some 4), .pure .move, [.c (.bool false)], none⟩])
      .ret)
      .skip))
    (.seq (.seq (.ops [⟨(some 12), .pure (.faddr 0), [.t 2], none⟩,
      ⟨(some 13), .read (.load none), [.t 12], none⟩])
    (.block 0
      (.seq (.ops [⟨(some 15), .pure (.bin .eql), [.t 13, .c (.int .i64 1)], none⟩,
        ⟨(some 14), .pure .move, [.t 15], none⟩])
      (.cond (.t 14)
        (.seq (.ops [⟨(some 4), .pure .move, [.c (.bool true)], none⟩])
        .ret)
        (.seq (.ops [⟨(some 17), .pure (.bin .eql), [.t 13, .c (.int .i64 3)], none⟩,
          ⟨(some 16), .pure .move, [.t 17], none⟩])
        (.cond (.t 16)
          (.seq (.ops [⟨(some 18), .pure (.faddr 1), [.t 2], none⟩,
            ⟨(some 19), .read (.load none), [.t 18], none⟩,
            ⟨(some 20), .pure .move, [.t 1], none⟩,
            ⟨(some 21), .pure (.bin .shr), [.t 19, .t 20], none⟩,
            ⟨(some 22), .pure (.bin .and), [.t 21, .c (.int .i64 1)], none⟩,
            ⟨(some 23), .pure (.bin .eql), [.t 22, .c (.int .i64 1)], none⟩,
            ⟨(some 4), .pure .move, [.t 23], none⟩])
          .ret)
          (.seq (.ops [⟨(some 25), .pure (.bin .eql), [.t 13, .c (.int .i64 4)], none⟩,
            ⟨(some 24), .pure .move, [.t 25], none⟩])
          (.cond (.t 24)
            (.seq (.ops [⟨(some 26), .pure .move, [.t 1], none⟩,
              ⟨(some 27), .pure (.bin .eql), [.t 26, .c (.int .i64 2)], none⟩,
              ⟨(some 4), .pure .move, [.t 27], none⟩])
            .ret)
            (.seq (.seq (.ops [⟨(some 29), .pure (.bin .eql), [.t 13, .c (.int .i64 5)], none⟩,
              ⟨(some 28), .pure .move, [.t 29], none⟩])
            (.cond (.t 28)
              .skip
              (.seq (.ops [⟨(some 30), .pure (.bin .eql), [.t 13, .c (.int .i64 6)], none⟩,
                ⟨(some 28), .pure .move, [.t 30], none⟩])
              (.cond (.t 28)
                .skip
                (.ops [⟨(some 31), .pure (.bin .eql), [.t 13, .c (.int .i64 7)], none⟩,
                  ⟨(some 28), .pure .move, [.t 31], none⟩])))))
            (.cond (.t 28)
              (.seq (.ops [⟨(some 32), .pure .move, [.t 1], none⟩,
                ⟨(some 33), .pure (.bin .eql), [.t 32, .c (.int .i64 4)], none⟩,
                ⟨(some 4), .pure .move, [.t 33], none⟩])
              .ret)
              (.seq (.ops [⟨(some 35), .pure (.bin .eql), [.t 13, .c (.int .i64 8)], none⟩,
                ⟨(some 34), .pure .move, [.t 35], none⟩])
              (.cond (.t 34)
                (.seq (.ops [⟨(some 5), .pure .move, [.c (.int .i64 0)], none⟩])
                (.block 1
                  (.loop [1, 2, 5]
                    (.seq (.seq (.ops [⟨(some 36), .pure .move, [.t 5], none⟩,
                      ⟨(some 37), .pure (.faddr 12), [.t 2], none⟩,
                      ⟨(some 38), .read (.load none), [.t 37], none⟩,
                      ⟨(some 39), .pure .lenL, [.t 38], none⟩,
                      ⟨(some 40), .pure (.bin .lss), [.t 36, .t 39], none⟩])
                    (.cond (.t 40)
                      .skip
                      (.exit 1)))
                    (.seq (.block 2
                      (.seq (.ops [⟨(some 43), .pure (.faddr 12), [.t 2], none⟩,
                        ⟨(some 44), .read (.load none), [.t 43], none⟩,
                        ⟨(some 45), .pure .move, [.t 5], none⟩,
                        ⟨(some 46), .pure (.iaddrS 13), [.t 44, .t 45], none⟩,
                        ⟨(some 47), .pure (.faddr 0), [.t 46], none⟩,
                        ⟨(some 48), .read (.load none), [.t 47], none⟩,
                        ⟨(some 49), .pure .move, [.t 1], none⟩,
                        ⟨(some 50), .pure (.bin .eql), [.t 48, .t 49], none⟩])
                      (.cond (.t 50)
                        (.seq (.ops [⟨(some 4), .pure .move, [.c (.bool true)], none⟩])
                        .ret)
                        .skip)))
                    (.ops [⟨(some 41), .pure .move, [.t 5], none⟩,
                      ⟨(some 42), .pure (.bin .add), [.t 41, .c (.int .i64 1)], none⟩,
                      ⟨(some 5), .pure .move, [.t 42], none⟩]))))))
                (.seq (.ops [⟨(some 52), .pure (.bin .eql), [.t 13, .c (.int .i64 9)], none⟩,
                  ⟨(some 51), .pure .move, [.t 52], none⟩])
                (.cond (.t 51)
                  (.seq (.ops [⟨(some 53), .pure .move, [.t 1], none⟩,
                    ⟨(some 54), .pure (.bin .eql), [.t 53, .c (.int .i64 6)], none⟩,
                    ⟨(some 4), .pure .move, [.t 54], none⟩])
                  .ret)
                  (.seq (.ops [⟨(some 56), .pure (.bin .eql), [.t 13, .c (.int .i64 10)], none⟩,
                    ⟨(some 55), .pure .move, [.t 56], none⟩])
                  (.cond (.t 55)
                    (.seq (.ops [⟨(some 57), .pure .move, [.t 1], none⟩,
                      ⟨(some 58), .pure (.bin .eql), [.t 57, .c (.int .i64 7)], none⟩,
                      ⟨(some 4), .pure .move, [.t 58], none⟩])
                    .ret)
                    .skip))))))))))))))))
    (.seq (.ops [⟨(some 4), .pure .move, [.c (.bool false)], none⟩])
    .ret)))) }
/-- datakit/schema.Size -/
def ac481 : AFn :=
  { nt := 5, res := [.tmp 2], body :=
    (.seq (.ops [⟨(some 1), .new (.box 15), [.t 0], none⟩,
      ⟨(some 2), .pure .move, [.c (.int .i64 0)], none⟩])
    (.seq (.ops [⟨(some 3), .read (.load (some 15)), [.t 1], none⟩,
      ⟨(some 4), .pcall 509, [.t 3, .c (.int .i64 48)], none⟩,
      ⟨(some 2), .pure .move, [.t 4], none⟩])
    .ret)) }
/-- datakit/schema.Check$1 -/
def ac485 : AFn :=
  { nt := 23, res := [.tmp 5], body :=
    (.seq (.ops [⟨(some 4), .new (.box 15), [.t 0], none⟩,
      ⟨(some 5), .pure .move, [.c (.int .i64 0)], none⟩])
    (.seq (.ops [⟨(some 9), .read (.load (some 16)), [.t 1], none⟩,
      ⟨(some 10), .read (.load (some 15)), [.t 4], none⟩,
      ⟨(some 11), .pcall 486, [.t 9, .t 10, .c (.int .i64 1)], none⟩,
      ⟨(some 8), .pure .move, [.t 11], none⟩,
      ⟨(some 12), .pure (.ext 0), [.t 8], none⟩,
      ⟨(some 13), .pure (.ext 1), [.t 8], none⟩,
      ⟨(some 6), .pure .move, [.t 12], none⟩,
      ⟨(some 7), .pure .move, [.t 13], none⟩])
    (.seq (.ops [⟨(some 14), .read (.load none), [.t 2], none⟩,
      ⟨(some 15), .pure .move, [.t 14], none⟩,
      ⟨(some 16), .pure .move, [.t 6], some (15, false)⟩,
      ⟨(some 17), .pure .pick, [.t 15, .c (.bool true), .t 16], none⟩,
      ⟨none, .eff (.store 1), [.t 2, .t 17], none⟩])
    (.seq (.ops [⟨(some 18), .read (.load none), [.t 3], none⟩,
      ⟨(some 19), .read (.load (some 15)), [.t 4], none⟩,
      ⟨(some 20), .pcall 481, [.t 19], none⟩,
      ⟨(some 21), .pure (.bin .add), [.t 18, .t 20], none⟩,
      ⟨none, .eff (.store 1), [.t 3, .t 21], none⟩])
    (.seq (.ops [⟨(some 22), .pure .move, [.t 7], none⟩,
      ⟨(some 5), .pure .move, [.t 22], none⟩])
    .ret))))) }
/-- datakit/schema.tree -/
def ac486 : AFn :=
  { nt := 46, res := [.tmp 6, .tmp 7], body :=
    (.seq (.ops [⟨(some 3), .new (.box 16), [.t 0], none⟩,
      ⟨(some 4), .new (.box 15), [.t 1], none⟩,
      ⟨(some 6), .pure .move, [.c (.bool false)], none⟩,
      ⟨(some 7), .pure .move, [.c (.int .i64 0)], none⟩])
    (.seq (.seq (.ops [⟨(some 14), .pure .move, [.t 2], none⟩,
      ⟨(some 15), .pure (.bin .gtr), [.t 14, .c (.int .i64 48)], none⟩])
    (.cond (.t 15)
      (.seq (.ops [⟨(some 6), .pure .move, [.c (.bool true)], none⟩,
        ⟨(some 7), .pure .move, [.c (.int .i64 0)], none⟩])
      .ret)
      .skip))
    (.seq (.seq (.ops [⟨(some 16), .read (.load (some 16)), [.t 3], none⟩,
      ⟨(some 17), .read (.load (some 15)), [.t 4], none⟩,
      ⟨(some 18), .pcall 513, [.t 16, .t 17], none⟩,
      ⟨(some 8), .pure .move, [.t 18], none⟩])
    (.seq (.ops [⟨(some 19), .pure .move, [.t 8], none⟩,
      ⟨(some 20), .pure (.bin .neq), [.t 19, .c (.int .i64 0)], none⟩])
    (.cond (.t 20)
      (.seq (.ops [⟨(some 21), .pure .move, [.t 8], none⟩,
        ⟨(some 6), .pure .move, [.c (.bool false)], none⟩,
        ⟨(some 7), .pure .move, [.t 21], none⟩])
      .ret)
      .skip)))
    (.seq (.ops [⟨(some 9), .pure .move, [.c (.bool false)], none⟩])
    (.seq (.seq (.ops [⟨(some 22), .read (.load (some 15)), [.t 4], none⟩,
      ⟨(some 23), .pcall 514, [.t 22], none⟩,
      ⟨(some 24), .pure .lenL, [.t 23], none⟩,
      ⟨(some 25), .pure .move, [.c (.int .i64 0)], none⟩])
    (.block 0
      (.loop [2, 3, 9, 23, 24, 25]
        (.seq (.ops [⟨(some 26), .pure (.bin .lss), [.t 25, .t 24], none⟩])
        (.seq (.cond (.t 26)
          .skip
          (.exit 0))
        (.seq (.block 1
          (.seq (.ops [⟨(some 27), .pure (.iaddrS 15), [.t 23, .t 25], none⟩,
            ⟨(some 28), .read (.load (some 15)), [.t 27], none⟩,
            ⟨(some 11), .new (.new 15 [.agg [.int .i64 0, .int .i64 0, .int .i64 0, .int .i64 0, .str [], .snil 11, .int .i64 0, .int .i64 0, .int .i64 0, .int .i64 0, .int .i64 0, .snil 6, .snil 13, .snil 17, .snil 15]]), [], none⟩,
            ⟨none, .eff (.store 15), [.t 11, .t 28], none⟩])
          (.seq (.ops [⟨(some 30), .read (.load (some 16)), [.t 3], none⟩,
            ⟨(some 31), .read (.load (some 15)), [.t 11], none⟩,
            ⟨(some 32), .pure .move, [.t 2], none⟩,
            ⟨(some 33), .pure (.bin .add), [.t 32, .c (.int .i64 1)], none⟩,
            ⟨(some 34), .pcall 486, [.t 30, .t 31, .t 33], none⟩,
            ⟨(some 29), .pure .move, [.t 34], none⟩,
            ⟨(some 35), .pure (.ext 0), [.t 29], none⟩,
            ⟨(some 36), .pure (.ext 1), [.t 29], none⟩,
            ⟨(some 12), .pure .move, [.t 35], none⟩,
            ⟨(some 13), .pure .move, [.t 36], none⟩])
          (.seq (.seq (.ops [⟨(some 37), .pure .move, [.t 13], none⟩,
            ⟨(some 38), .pure (.bin .neq), [.t 37, .c (.int .i64 0)], none⟩])
          (.cond (.t 38)
            (.seq (.ops [⟨(some 39), .pure .move, [.t 13], none⟩,
              ⟨(some 6), .pure .move, [.c (.bool false)], none⟩,
              ⟨(some 7), .pure .move, [.t 39], none⟩])
            .ret)
            .skip))
          (.ops [⟨(some 40), .pure .move, [.t 9], none⟩,
            ⟨(some 41), .pure .move, [.t 40], none⟩,
            ⟨(some 42), .pure .move, [.t 12], some (41, false)⟩,
            ⟨(some 43), .pure .pick, [.t 41, .c (.bool true), .t 42], none⟩,
            ⟨(some 9), .pure .move, [.t 43], none⟩])))))
        (.ops [⟨(some 44), .pure (.bin .add), [.t 25, .c (.int .i64 1)], none⟩,
          ⟨(some 25), .pure .move, [.t 44], none⟩])))))))
    (.seq (.ops [⟨(some 45), .pure .move, [.t 9], none⟩,
      ⟨(some 6), .pure .move, [.t 45], none⟩,
      ⟨(some 7), .pure .move, [.c (.int .i64 0)], none⟩])
    .ret)))))) }
/-- datakit/schema.clone -/
def ac490 : AFn :=
  { nt := 82, res := [.cell 2 (some 15)], body :=
    (.seq (.ops [⟨(some 1), .new (.box 15), [.t 0], none⟩,
      ⟨(some 2), .new (.new 15 [.agg [.int .i64 0, .int .i64 0, .int .i64 0, .int .i64 0, .str [], .snil 11, .int .i64 0, .int .i64 0, .int .i64 0, .int .i64 0, .int .i64 0, .snil 6, .snil 13, .snil 17, .snil 15]]), [], none⟩])
    (.seq (.ops [⟨(some 6), .pure (.faddr 5), [.t 1], none⟩,
      ⟨(some 7), .pure (.faddr 0), [.t 6], none⟩,
      ⟨(some 8), .read (.load none), [.t 7], none⟩,
      ⟨(some 9), .call 216, [.t 8], none⟩,
      ⟨(some 10), .pure (.faddr 5), [.t 1], none⟩,
      ⟨(some 11), .pure (.faddr 0), [.t 10], none⟩,
      ⟨none, .eff (.store 1), [.t 11, .t 9], none⟩])
    (.seq (.ops [⟨(some 12), .pure (.faddr 6), [.t 1], none⟩,
      ⟨(some 13), .read (.load (some 6)), [.t 12], none⟩,
      ⟨(some 14), .pcall 517, [.t 13], none⟩,
      ⟨(some 15), .pure (.faddr 6), [.t 1], none⟩,
      ⟨none, .eff (.store 6), [.t 15, .t 14], none⟩])
    (.seq (.ops [⟨(some 16), .pure (.faddr 12), [.t 1], none⟩,
      ⟨(some 17), .read (.load none), [.t 16], none⟩,
      ⟨(some 18), .call 518, [.t 17], none⟩,
      ⟨(some 19), .pure (.faddr 12), [.t 1], none⟩,
      ⟨none, .eff (.store 1), [.t 19, .t 18], none⟩])
    (.seq (.seq (.ops [⟨(some 20), .pure (.faddr 12), [.t 1], none⟩,
      ⟨(some 21), .read (.load none), [.t 20], none⟩,
      ⟨(some 22), .pure .lenL, [.t 21], none⟩,
      ⟨(some 23), .pure .move, [.c (.int .i64 0)], none⟩])
    (.block 0
      (.loop [1, 2, 22, 23]
        (.seq (.ops [⟨(some 24), .pure (.bin .lss), [.t 23, .t 22], none⟩])
        (.seq (.cond (.t 24)
          .skip
          (.exit 0))
        (.seq (.block 1
          (.seq (.ops [⟨(some 25), .pure .move, [.t 23], none⟩,
            ⟨(some 3), .pure .move, [.t 25], none⟩])
          (.ops [⟨(some 26), .pure (.faddr 12), [.t 1], none⟩,
            ⟨(some 27), .read (.load none), [.t 26], none⟩,
            ⟨(some 28), .pure .move, [.t 3], none⟩,
            ⟨(some 29), .pure (.faddr 12), [.t 1], none⟩,
            ⟨(some 30), .read (.load none), [.t 29], none⟩,
            ⟨(some 31), .pure .move, [.t 3], none⟩,
            ⟨(some 32), .pure (.iaddrS 13), [.t 30, .t 31], none⟩,
            ⟨(some 33), .read (.load (some 13)), [.t 32], none⟩,
            ⟨(some 34), .pcall 26, [.t 33], none⟩,
            ⟨(some 35), .pure (.iaddrS 13), [.t 27, .t 28], none⟩,
            ⟨none, .eff (.store 13), [.t 35, .t 34], none⟩])))
        (.ops [⟨(some 36), .pure (.bin .add), [.t 23, .c (.int .i64 1)], none⟩,
          ⟨(some 23), .pure .move, [.t 36], none⟩])))))))
    (.seq (.ops [⟨(some 37), .pure (.faddr 13), [.t 1], none⟩,
      ⟨(some 38), .read (.load none), [.t 37], none⟩,
      ⟨(some 39), .call 519, [.t 38], none⟩,
      ⟨(some 40), .pure (.faddr 13), [.t 1], none⟩,
      ⟨none, .eff (.store 1), [.t 40, .t 39], none⟩])
    (.seq (.seq (.ops [⟨(some 41), .pure (.faddr 13), [.t 1], none⟩,
      ⟨(some 42), .read (.load none), [.t 41], none⟩,
      ⟨(some 43), .pure .lenL, [.t 42], none⟩,
      ⟨(some 44), .pure .move, [.c (.int .i64 0)], none⟩])
    (.block 2
      (.loop [1, 2, 43, 44]
        (.seq (.ops [⟨(some 45), .pure (.bin .lss), [.t 44, .t 43], none⟩])
        (.seq (.cond (.t 45)
          .skip
          (.exit 2))
        (.seq (.block 3
          (.seq (.ops [⟨(some 46), .pure .move, [.t 44], none⟩,
            ⟨(some 4), .pure .move, [.t 46], none⟩])
          (.ops [⟨(some 47), .pure (.faddr 13), [.t 1], none⟩,
            ⟨(some 48), .read (.load none), [.t 47], none⟩,
            ⟨(some 49), .pure .move, [.t 4], none⟩,
            ⟨(some 50), .pure (.faddr 13), [.t 1], none⟩,
            ⟨(some 51), .read (.load none), [.t 50], none⟩,
            ⟨(some 52), .pure .move, [.t 4], none⟩,
            ⟨(some 53), .pure (.iaddrS 17), [.t 51, .t 52], none⟩,
            ⟨(some 54), .pure (.faddr 2), [.t 53], none⟩,
            ⟨(some 55), .read (.load (some 15)), [.t 54], none⟩,
            ⟨(some 56), .pcall 490, [.t 55], none⟩,
            ⟨(some 57), .pure (.iaddrS 17), [.t 48, .t 49], none⟩,
            ⟨(some 58), .pure (.faddr 2), [.t 57], none⟩,
            ⟨none, .eff (.store 15), [.t 58, .t 56], none⟩])))
        (.ops [⟨(some 59), .pure (.bin .add), [.t 44, .c (.int .i64 1)], none⟩,
          ⟨(some 44), .pure .move, [.t 59], none⟩])))))))
    (.seq (.ops [⟨(some 60), .pure (.faddr 14), [.t 1], none⟩,
      ⟨(some 61), .read (.load none), [.t 60], none⟩,
      ⟨(some 62), .call 520, [.t 61], none⟩,
      ⟨(some 63), .pure (.faddr 14), [.t 1], none⟩,
      ⟨none, .eff (.store 1), [.t 63, .t 62], none⟩])
    (.seq (.seq (.ops [⟨(some 64), .pure (.faddr 14), [.t 1], none⟩,
      ⟨(some 65), .read (.load none), [.t 64], none⟩,
      ⟨(some 66), .pure .lenL, [.t 65], none⟩,
      ⟨(some 67), .pure .move, [.c (.int .i64 0)], none⟩])
    (.block 4
      (.loop [1, 2, 66, 67]
        (.seq (.ops [⟨(some 68), .pure (.bin .lss), [.t 67, .t 66], none⟩])
        (.seq (.cond (.t 68)
          .skip
          (.exit 4))
        (.seq (.block 5
          (.seq (.ops [⟨(some 69), .pure .move, [.t 67], none⟩,
            ⟨(some 5), .pure .move, [.t 69], none⟩])
          (.ops [⟨(some 70), .pure (.faddr 14), [.t 1], none⟩,
            ⟨(some 71), .read (.load none), [.t 70], none⟩,
            ⟨(some 72), .pure .move, [.t 5], none⟩,
            ⟨(some 73), .pure (.faddr 14), [.t 1], none⟩,
            ⟨(some 74), .read (.load none), [.t 73], none⟩,
            ⟨(some 75), .pure .move, [.t 5], none⟩,
            ⟨(some 76), .pure (.iaddrS 15), [.t 74, .t 75], none⟩,
            ⟨(some 77), .read (.load (some 15)), [.t 76], none⟩,
            ⟨(some 78), .pcall 490, [.t 77], none⟩,
            ⟨(some 79), .pure (.iaddrS 15), [.t 71, .t 72], none⟩,
            ⟨none, .eff (.store 15), [.t 79, .t 78], none⟩])))
        (.ops [⟨(some 80), .pure (.bin .add), [.t 67, .c (.int .i64 1)], none⟩,
          ⟨(some 67), .pure .move, [.t 80], none⟩])))))))
    (.seq (.ops [⟨(some 81), .read (.load (some 15)), [.t 1], none⟩,
      ⟨none, .eff (.store 15), [.t 2, .t 81], none⟩])
    .ret)))))))))) }
/-- datakit/schema.refs -/
def ac491 : AFn :=
  { nt := 49, res := [.tmp 8], body :=
    (.seq (.ops [⟨(some 5), .new (.box 15), [.t 1], none⟩,
      ⟨(some 8), .pure .move, [.c (.snil 1)], none⟩])
    (.seq (.seq (.ops [⟨(some 11), .pure .move, [.t 2], none⟩,
      ⟨(some 12), .pure (.bin .lss), [.t 11, .c (.int .i64 1)], none⟩])
    (.cond (.t 12)
      (.seq (.ops [⟨(some 13), .pure .move, [.t 0], none⟩,
        ⟨(some 8), .pure .move, [.t 13], none⟩])
      .ret)
      .skip))
    (.seq (.seq (.ops [⟨(some 14), .pure (.faddr 0), [.t 5], none⟩,
      ⟨(some 15), .read (.load none), [.t 14], none⟩,
      ⟨(some 16), .pure (.bin .eql), [.t 15, .c (.int .i64 14)], none⟩])
    (.cond (.t 16)
      (.ops [⟨(some 17), .pure .move, [.t 0], none⟩,
        ⟨(some 18), .pure (.faddr 4), [.t 5], none⟩,
        ⟨(some 19), .read (.load none), [.t 18], none⟩,
        ⟨(some 20), .new (.buildSlice 1 [.str []] [0]), [.t 19], none⟩,
        ⟨(some 21), .eff (.append 1 16), [.t 17, .t 20], none⟩,
        ⟨(some 0), .pure .move, [.t 21], none⟩])
      .skip))
    (.seq (.seq (.ops [⟨(some 22), .pure .move, [.t 3], none⟩,
      ⟨(some 23), .pure .move, [.t 22], none⟩,
      ⟨(some 24), .pure (.faddr 0), [.t 5], some (23, true)⟩,
      ⟨(some 25), .read (.load none), [.t 24], some (23, true)⟩,
      ⟨(some 26), .pure (.bin .eql), [.t 25, .c (.int .i64 9)], some (23, true)⟩,
      ⟨(some 27), .pure .move, [.t 26], some (23, true)⟩,
      ⟨(some 28), .pure (.faddr 0), [.t 5], some (27, false)⟩,
      ⟨(some 29), .read (.load none), [.t 28], some (27, false)⟩,
      ⟨(some 30), .pure (.bin .eql), [.t 29, .c (.int .i64 10)], some (27, false)⟩,
      ⟨(some 31), .pure .pick, [.t 27, .c (.bool true), .t 30], some (23, true)⟩,
      ⟨(some 32), .pure .pick, [.t 23, .t 31, .c (.bool false)], none⟩])
    (.cond (.t 32)
      (.seq (.ops [⟨(some 33), .pure .move, [.t 0], none⟩,
        ⟨(some 8), .pure .move, [.t 33], none⟩])
      .ret)
      .skip))
    (.seq (.seq (.ops [⟨(some 34), .read (.load (some 15)), [.t 5], none⟩,
      ⟨(some 35), .pcall 514, [.t 34], none⟩,
      ⟨(some 36), .pure .lenL, [.t 35], none⟩,
      ⟨(some 37), .pure .move, [.c (.int .i64 0)], none⟩])
    (.block 0
      (.loop [0, 2, 3, 35, 36, 37]
        (.seq (.ops [⟨(some 38), .pure (.bin .lss), [.t 37, .t 36], none⟩])
        (.seq (.cond (.t 38)
          .skip
          (.exit 0))
        (.seq (.block 1
          (.seq (.ops [⟨(some 39), .pure (.iaddrS 15), [.t 35, .t 37], none⟩,
            ⟨(some 40), .read (.load (some 15)), [.t 39], none⟩,
            ⟨(some 10), .new (.new 15 [.agg [.int .i64 0, .int .i64 0, .int .i64 0, .int .i64 0, .str [], .snil 11, .int .i64 0, .int .i64 0, .int .i64 0, .int .i64 0, .int .i64 0, .snil 6, .snil 13, .snil 17, .snil 15]]), [], none⟩,
            ⟨none, .eff (.store 15), [.t 10, .t 40], none⟩])
          (.ops [⟨(some 41), .pure .move, [.t 0], none⟩,
            ⟨(some 42), .read (.load (some 15)), [.t 10], none⟩,
            ⟨(some 43), .pure .move, [.t 2], none⟩,
            ⟨(some 44), .pure (.bin .sub), [.t 43, .c (.int .i64 1)], none⟩,
            ⟨(some 45), .pure .move, [.t 3], none⟩,
            ⟨(some 46), .call 491, [.t 41, .t 42, .t 44, .t 45], none⟩,
            ⟨(some 0), .pure .move, [.t 46], none⟩])))
        (.ops [⟨(some 47), .pure (.bin .add), [.t 37, .c (.int .i64 1)], none⟩,
          ⟨(some 37), .pure .move, [.t 47], none⟩])))))))
    (.seq (.ops [⟨(some 48), .pure .move, [.t 0], none⟩,
      ⟨(some 8), .pure .move, [.t 48], none⟩])
    .ret)))))) }
/-- datakit/datakitlaw46.fields -/
def ac502 : AFn :=
  { nt := 5, res := [.cell 2 (some 13)], body :=
    (.seq (.ops [⟨(some 2), .new (.new 13 [.agg [.int .i64 0, .bool false, .bool false, .str [], .int .i64 0, .int .i64 0, .int .i64 0, .int .i64 0, .int .i64 0, .str [], .snil 1, .snil 13, .snil 14]]), [], none⟩])
    (.seq (.ops [⟨(some 3), .pure .move, [.t 0], none⟩,
      ⟨(some 4), .pure (.build [.int .i64 0, .bool false, .bool false, .str [], .int .i64 0, .int .i64 0, .int .i64 0, .int .i64 0, .int .i64 0, .str [], .snil 1, .snil 13, .snil 14] [(0, 1), (12, 1)]), [.c (.int .i64 7), .t 3], none⟩,
      ⟨none, .eff (.store 13), [.t 2, .t 4], none⟩])
    .ret)) }
/-- datakit/datakitref07.Int -/
def ac503 : AFn :=
  { nt := 6, res := [.cell 2 (some 13)], body :=
    (.seq (.ops [⟨(some 2), .new (.new 13 [.agg [.int .i64 0, .bool false, .bool false, .str [], .int .i64 0, .int .i64 0, .int .i64 0, .int .i64 0, .int .i64 0, .str [], .snil 1, .snil 13, .snil 14]]), [], none⟩])
    (.seq (.ops [⟨(some 3), .pure .move, [.t 0], none⟩,
      ⟨(some 4), .pcall 549, [.t 3], none⟩,
      ⟨(some 5), .pcall 548, [.t 4], none⟩,
      ⟨none, .eff (.store 13), [.t 2, .t 5], none⟩])
    .ret)) }
/-- datakit/datakitlaw46.text -/
def ac504 : AFn :=
  { nt := 5, res := [.cell 2 (some 13)], body :=
    (.seq (.ops [⟨(some 2), .new (.new 13 [.agg [.int .i64 0, .bool false, .bool false, .str [], .int .i64 0, .int .i64 0, .int .i64 0, .int .i64 0, .int .i64 0, .str [], .snil 1, .snil 13, .snil 14]]), [], none⟩])
    (.seq (.ops [⟨(some 3), .pure .move, [.t 0], none⟩,
      ⟨(some 4), .pure (.build [.int .i64 0, .bool false, .bool false, .str [], .int .i64 0, .int .i64 0, .int .i64 0, .int .i64 0, .int .i64 0, .str [], .snil 1, .snil 13, .snil 14] [(0, 1), (9, 1)]), [.c (.int .i64 4), .t 3], none⟩,
      ⟨none, .eff (.store 13), [.t 2, .t 4], none⟩])
    .ret)) }
/-- datakit/validate.permits -/
def ac505 : AFn :=
  { nt := 157, res := [.tmp 6], body :=
    (.seq (.ops [⟨(some 3), .new (.box 16), [.t 0], none⟩,
      ⟨(some 4), .new (.box 15), [.t 1], none⟩,
      ⟨(some 5), .new (.box 13), [.t 2], none⟩,
      ⟨(some 6), .pure .move, [.c (.bool false)], none⟩])
    (.seq (.seq (.ops [⟨(some 15), .pure (.faddr 0), [.t 4], none⟩,
      ⟨(some 16), .read (.load none), [.t 15], none⟩])
    (.block 0
      (.seq (.ops [⟨(some 18), .pure (.bin .eql), [.t 16, .c (.int .i64 1)], none⟩,
        ⟨(some 17), .pure .move, [.t 18], none⟩])
      (.cond (.t 17)
        (.seq (.ops [⟨(some 6), .pure .move, [.c (.bool true)], none⟩])
        .ret)
        (.seq (.ops [⟨(some 20), .pure (.bin .eql), [.t 16, .c (.int .i64 3)], none⟩,
          ⟨(some 19), .pure .move, [.t 20], none⟩])
        (.cond (.t 19)
          (.seq (.ops [⟨(some 21), .pure (.faddr 1), [.t 4], none⟩,
            ⟨(some 22), .read (.load none), [.t 21], none⟩,
            ⟨(some 23), .pure (.faddr 0), [.t 5], none⟩,
            ⟨(some 24), .read (.load none), [.t 23], none⟩,
            ⟨(some 25), .pure (.conv .u64), [.t 24], none⟩,
            ⟨(some 26), .pure (.bin .shr), [.t 22, .t 25], none⟩,
            ⟨(some 27), .pure (.bin .and), [.t 26, .c (.int .i64 1)], none⟩,
            ⟨(some 28), .pure (.bin .eql), [.t 27, .c (.int .i64 1)], none⟩,
            ⟨(some 6), .pure .move, [.t 28], none⟩])
          .ret)
          (.seq (.ops [⟨(some 30), .pure (.bin .eql), [.t 16, .c (.int .i64 4)], none⟩,
            ⟨(some 29), .pure .move, [.t 30], none⟩])
          (.cond (.t 29)
            (.seq (.ops [⟨(some 31), .pure (.faddr 0), [.t 5], none⟩,
              ⟨(some 32), .read (.load none), [.t 31], none⟩,
              ⟨(some 33), .pure (.bin .eql), [.t 32, .c (.int .i64 2)], none⟩,
              ⟨(some 34), .pure .move, [.t 33], none⟩,
              ⟨(some 35), .pure (.faddr 5), [.t 4], some (34, true)⟩,
              ⟨(some 36), .read (.load (some 1)), [.t 35], some (34, true)⟩,
              ⟨(some 37), .pure (.faddr 2), [.t 5], some (34, true)⟩,
              ⟨(some 38), .read (.load (some 3)), [.t 37], some (34, true)⟩,
              ⟨(some 39), .pcall 235, [.t 36, .t 38], some (34, true)⟩,
              ⟨(some 40), .pure .pick, [.t 34, .t 39, .c (.bool false)], none⟩,
              ⟨(some 6), .pure .move, [.t 40], none⟩])
            .ret)
            (.seq (.ops [⟨(some 42), .pure (.bin .eql), [.t 16, .c (.int .i64 5)], none⟩,
              ⟨(some 41), .pure .move, [.t 42], none⟩])
            (.cond (.t 41)
              (.seq (.ops [⟨(some 43), .pure (.faddr 0), [.t 5], none⟩,
                ⟨(some 44), .read (.load none), [.t 43], none⟩,
                ⟨(some 45), .pure (.bin .eql), [.t 44, .c (.int .i64 4)], none⟩,
                ⟨(some 46), .pure .move, [.t 45], none⟩,
                ⟨(some 47), .pure (.faddr 9), [.t 5], some (46, true)⟩,
                ⟨(some 48), .read (.load none), [.t 47], some (46, true)⟩,
                ⟨(some 49), .pcall 551, [.t 48], some (46, true)⟩,
                ⟨(some 50), .pure (.faddr 2), [.t 4], some (46, true)⟩,
                ⟨(some 51), .read (.load none), [.t 50], some (46, true)⟩,
                ⟨(some 52), .pure (.faddr 3), [.t 4], some (46, true)⟩,
                ⟨(some 53), .read (.load none), [.t 52], some (46, true)⟩,
                ⟨(some 54), .pcall 550, [.t 49, .t 51, .t 53], some (46, true)⟩,
                ⟨(some 55), .pure .pick, [.t 46, .t 54, .c (.bool false)], none⟩,
                ⟨(some 6), .pure .move, [.t 55], none⟩])
              .ret)
              (.seq (.ops [⟨(some 57), .pure (.bin .eql), [.t 16, .c (.int .i64 6)], none⟩,
                ⟨(some 56), .pure .move, [.t 57], none⟩])
              (.cond (.t 56)
                (.seq (.ops [⟨(some 58), .pure (.faddr 0), [.t 5], none⟩,
                  ⟨(some 59), .read (.load none), [.t 58], none⟩,
                  ⟨(some 60), .pure (.bin .eql), [.t 59, .c (.int .i64 4)], none⟩,
                  ⟨(some 61), .pure .move, [.t 60], none⟩,
                  ⟨(some 62), .pure (.faddr 6), [.t 4], some (61, true)⟩,
                  ⟨(some 63), .read (.load (some 6)), [.t 62], some (61, true)⟩,
                  ⟨(some 64), .pure (.faddr 9), [.t 5], some (61, true)⟩,
                  ⟨(some 65), .read (.load none), [.t 64], some (61, true)⟩,
                  ⟨(some 66), .pcall 552, [.t 63, .t 65], some (61, true)⟩,
                  ⟨(some 67), .pure .pick, [.t 61, .t 66, .c (.bool false)], none⟩,
                  ⟨(some 6), .pure .move, [.t 67], none⟩])
                .ret)
                (.seq (.ops [⟨(some 69), .pure (.bin .eql), [.t 16, .c (.int .i64 7)], none⟩,
                  ⟨(some 68), .pure .move, [.t 69], none⟩])
                (.cond (.t 68)
                  (.seq (.ops [⟨(some 70), .pure (.faddr 0), [.t 5], none⟩,
                    ⟨(some 71), .read (.load none), [.t 70], none⟩,
                    ⟨(some 72), .pure (.bin .eql), [.t 71, .c (.int .i64 4)], none⟩,
                    ⟨(some 73), .pure .move, [.t 72], none⟩,
                    ⟨(some 74), .pure (.faddr 4), [.t 4], some (73, true)⟩,
                    ⟨(some 75), .read (.load none), [.t 74], some (73, true)⟩,
                    ⟨(some 76), .pure (.faddr 9), [.t 5], some (73, true)⟩,
                    ⟨(some 77), .read (.load none), [.t 76], some (73, true)⟩,
                    ⟨(some 78), .pcall 553, [.t 75, .t 77], some (73, true)⟩,
                    ⟨(some 79), .pure .pick, [.t 73, .t 78, .c (.bool false)], none⟩,
                    ⟨(some 6), .pure .move, [.t 79], none⟩])
                  .ret)
                  (.seq (.ops [⟨(some 81), .pure (.bin .eql), [.t 16, .c (.int .i64 8)], none⟩,
                    ⟨(some 80), .pure .move, [.t 81], none⟩])
                  (.cond (.t 80)
                    (.seq (.seq (.ops [⟨(some 82), .pure (.faddr 12), [.t 4], none⟩,
                      ⟨(some 83), .read (.load none), [.t 82], none⟩,
                      ⟨(some 84), .pure .lenL, [.t 83], none⟩,
                      ⟨(some 85), .pure .move, [.c (.int .i64 0)], none⟩])
                    (.block 1
                      (.loop [5, 83, 84, 85]
                        (.seq (.ops [⟨(some 86), .pure (.bin .lss), [.t 85, .t 84], none⟩])
                        (.seq (.cond (.t 86)
                          .skip
                          (.exit 1))
                        (.seq (.block 2
                          (.seq (.ops [⟨(some 87), .pure (.iaddrS 13), [.t 83, .t 85], none⟩,
                            ⟨(some 88), .read (.load (some 13)), [.t 87], none⟩,
                            ⟨(some 8), .new (.new 13 [.agg [.int .i64 0, .bool false, .bool false, .str [], .int .i64 0, .int .i64 0, .int .i64 0, .int .i64 0, .int .i64 0, .str [], .snil 1, .snil 13, .snil 14]]), [], none⟩,
                            ⟨none, .eff (.store 13), [.t 8, .t 88], none⟩])
                          (.seq (.ops [⟨(some 89), .read (.load (some 13)), [.t 8], none⟩,
                            ⟨(some 90), .read (.load (some 13)), [.t 5], none⟩,
                            ⟨(some 91), .pcall 239, [.t 89, .t 90], none⟩])
                          (.cond (.t 91)
                            (.seq (.ops [⟨(some 6), .pure .move, [.c (.bool true)], none⟩])
                            .ret)
                            .skip))))
                        (.ops [⟨(some 92), .pure (.bin .add), [.t 85, .c (.int .i64 1)], none⟩,
                          ⟨(some 85), .pure .move, [.t 92], none⟩])))))))
                    (.seq (.ops [⟨(some 6), .pure .move, [.c (.bool false)], none⟩])
                    .ret))
                    (.seq (.ops [⟨(some 94), .pure (.bin .eql), [.t 16, .c (.int .i64 9)], none⟩,
                      ⟨(some 93), .pure .move, [.t 94], none⟩])
                    (.cond (.t 93)
                      (.seq (.ops [⟨(some 95), .read (.load (some 16)), [.t 3], none⟩,
                        ⟨(some 96), .read (.load (some 15)), [.t 4], none⟩,
                        ⟨(some 97), .read (.load (some 13)), [.t 5], none⟩,
                        ⟨(some 98), .pcall 554, [.t 95, .t 96, .t 97], none⟩,
                        ⟨(some 6), .pure .move, [.t 98], none⟩])
                      .ret)
                      (.seq (.ops [⟨(some 100), .pure (.bin .eql), [.t 16, .c (.int .i64 10)], none⟩,
                        ⟨(some 99), .pure .move, [.t 100], none⟩])
                      (.cond (.t 99)
                        (.seq (.ops [⟨(some 101), .read (.load (some 16)), [.t 3], none⟩,
                          ⟨(some 102), .read (.load (some 15)), [.t 4], none⟩,
                          ⟨(some 103), .read (.load (some 13)), [.t 5], none⟩,
                          ⟨(some 104), .pcall 555, [.t 101, .t 102, .t 103], none⟩,
                          ⟨(some 6), .pure .move, [.t 104], none⟩])
                        .ret)
                        (.seq (.ops [⟨(some 106), .pure (.bin .eql), [.t 16, .c (.int .i64 11)], none⟩,
                          ⟨(some 105), .pure .move, [.t 106], none⟩])
                        (.cond (.t 105)
                          (.seq (.seq (.ops [⟨(some 107), .pure (.faddr 14), [.t 4], none⟩,
                            ⟨(some 108), .read (.load none), [.t 107], none⟩,
                            ⟨(some 109), .pure .lenL, [.t 108], none⟩,
                            ⟨(some 110), .pure .move, [.c (.int .i64 0)], none⟩])
                          (.block 3
                            (.loop [3, 5, 108, 109, 110]
                              (.seq (.ops [⟨(some 111), .pure (.bin .lss), [.t 110, .t 109], none⟩])
                              (.seq (.cond (.t 111)
                                .skip
                                (.exit 3))
                              (.seq (.block 4
                                (.seq (.ops [⟨(some 112), .pure (.iaddrS 15), [.t 108, .t 110], none⟩,
                                  ⟨(some 113), .read (.load (some 15)), [.t 112], none⟩,
                                  ⟨(some 10), .new (.new 15 [.agg [.int .i64 0, .int .i64 0, .int .i64 0, .int .i64 0, .str [], .snil 11, .int .i64 0, .int .i64 0, .int .i64 0, .int .i64 0, .int .i64 0, .snil 6, .snil 13, .snil 17, .snil 15]]), [], none⟩,
                                  ⟨none, .eff (.store 15), [.t 10, .t 113], none⟩])
                                (.seq (.ops [⟨(some 114), .read (.load (some 16)), [.t 3], none⟩,
                                  ⟨(some 115), .read (.load (some 15)), [.t 10], none⟩,
                                  ⟨(some 116), .read (.load (some 13)), [.t 5], none⟩,
                                  ⟨(some 117), .pcall 505, [.t 114, .t 115, .t 116], none⟩,
                                  ⟨(some 118), .pure (.un .not), [.t 117], none⟩])
                                (.cond (.t 118)
                                  (.seq (.ops [⟨(some 6), .pure .move, [.c (.bool false)], none⟩])
                                  .ret)
                                  .skip))))
                              (.ops [⟨(some 119), .pure (.bin .add), [.t 110, .c (.int .i64 1)], none⟩,
                                ⟨(some 110), .pure .move, [.t 119], none⟩])))))))
                          (.seq (.ops [⟨(some 6), .pure .move, [.c (.bool true)], none⟩])
                          .ret))
                          (.seq (.ops [⟨(some 121), .pure (.bin .eql), [.t 16, .c (.int .i64 12)], none⟩,
                            ⟨(some 120), .pure .move, [.t 121], none⟩])
                          (.cond (.t 120)
                            (.seq (.seq (.ops [⟨(some 122), .pure (.faddr 14), [.t 4], none⟩,
                              ⟨(some 123), .read (.load none), [.t 122], none⟩,
                              ⟨(some 124), .pure .lenL, [.t 123], none⟩,
                              ⟨(some 125), .pure .move, [.c (.int .i64 0)], none⟩])
                            (.block 5
                              (.loop [3, 5, 123, 124, 125]
                                (.seq (.ops [⟨(some 126), .pure (.bin .lss), [.t 125, .t 124], none⟩])
                                (.seq (.cond (.t 126)
                                  .skip
                                  (.exit 5))
                                (.seq (.block 6
                                  (.seq (.ops [⟨(some 127), .pure (.iaddrS 15), [.t 123, .t 125], none⟩,
                                    ⟨(some 128), .read (.load (some 15)), [.t 127], none⟩,
                                    ⟨(some 12), .new (.new 15 [.agg [.int .i64 0, .int .i64 0, .int .i64 0, .int .i64 0, .str [], .snil 11, .int .i64 0, .int .i64 0, .int .i64 0, .int .i64 0, .int .i64 0, .snil 6, .snil 13, .snil 17, .snil 15]]), [], none⟩,
                                    ⟨none, .eff (.store 15), [.t 12, .t 128], none⟩])
                                  (.seq (.ops [⟨(some 129), .read (.load (some 16)), [.t 3], none⟩,
                                    ⟨(some 130), .read (.load (some 15)), [.t 12], none⟩,
                                    ⟨(some 131), .read (.load (some 13)), [.t 5], none⟩,
                                    ⟨(some 132), .pcall 505, [.t 129, .t 130, .t 131], none⟩])
                                  (.cond (.t 132)
                                    (.seq (.ops [⟨(some 6), .pure .move, [.c (.bool true)], none⟩])
                                    .ret)
                                    .skip))))
                                (.ops [⟨(some 133), .pure (.bin .add), [.t 125, .c (.int .i64 1)], none⟩,
                                  ⟨(some 125), .pure .move, [.t 133], none⟩])))))))
                            (.seq (.ops [⟨(some 6), .pure .move, [.c (.bool false)], none⟩])
                            .ret))
                            (.seq (.ops [⟨(some 135), .pure (.bin .eql), [.t 16, .c (.int .i64 13)], none⟩,
                              ⟨(some 134), .pure .move, [.t 135], none⟩])
                            (.cond (.t 134)
                              (.seq (.ops [⟨(some 136), .read (.load (some 16)), [.t 3], none⟩,
                                ⟨(some 137), .pure (.faddr 14), [.t 4], none⟩,
                                ⟨(some 138), .read (.load none), [.t 137], none⟩,
                                ⟨(some 139), .pure (.iaddrS 15), [.t 138, .c (.int .i64 0)], none⟩,
                                ⟨(some 140), .read (.load (some 15)), [.t 139], none⟩,
                                ⟨(some 141), .read (.load (some 13)), [.t 5], none⟩,
                                ⟨(some 142), .pcall 505, [.t 136, .t 140, .t 141], none⟩,
                                ⟨(some 143), .pure (.un .not), [.t 142], none⟩,
                                ⟨(some 6), .pure .move, [.t 143], none⟩])
                              .ret)
                              (.seq (.ops [⟨(some 145), .pure (.bin .eql), [.t 16, .c (.int .i64 14)], none⟩,
                                ⟨(some 144), .pure .move, [.t 145], none⟩])
                              (.cond (.t 144)
                                (.seq (.ops [⟨(some 147), .read (.load (some 16)), [.t 3], none⟩,
                                  ⟨(some 148), .pure (.faddr 4), [.t 4], none⟩,
                                  ⟨(some 149), .read (.load none), [.t 148], none⟩,
                                  ⟨(some 150), .pcall 457, [.t 147, .t 149], none⟩,
                                  ⟨(some 146), .pure .move, [.t 150], none⟩,
                                  ⟨(some 151), .pure (.ext 0), [.t 146], none⟩,
                                  ⟨(some 152), .pure (.ext 1), [.t 146], none⟩,
                                  ⟨(some 13), .new (.new 15 [.agg [.int .i64 0, .int .i64 0, .int .i64 0, .int .i64 0, .str [], .snil 11, .int .i64 0, .int .i64 0, .int .i64 0, .int .i64 0, .int .i64 0, .snil 6, .snil 13, .snil 17, .snil 15]]), [], none⟩,
                                  ⟨none, .eff (.store 15), [.t 13, .t 151], none⟩,
                                  ⟨(some 14), .pure .move, [.t 152], none⟩])
                                (.seq (.ops [⟨(some 153), .read (.load (some 16)), [.t 3], none⟩,
                                  ⟨(some 154), .read (.load (some 15)), [.t 13], none⟩,
                                  ⟨(some 155), .read (.load (some 13)), [.t 5], none⟩,
                                  ⟨(some 156), .pcall 505, [.t 153, .t 154, .t 155], none⟩,
                                  ⟨(some 6), .pure .move, [.t 156], none⟩])
                                .ret))
                                .skip))))))))))))))))))))))))))))
    (.seq (.ops [⟨(some 6), .pure .move, [.c (.bool false)], none⟩])
    .ret))) }
/-- datakit/schema.size -/
def ac509 : AFn :=
  { nt := 25, res := [.tmp 4], body :=
    (.seq (.ops [⟨(some 2), .new (.box 15), [.t 0], none⟩,
      ⟨(some 4), .pure .move, [.c (.int .i64 0)], none⟩])
    (.seq (.seq (.ops [⟨(some 8), .pure .move, [.t 1], none⟩,
      ⟨(some 9), .pure (.bin .lss), [.t 8, .c (.int .i64 1)], none⟩])
    (.cond (.t 9)
      (.seq (.ops [⟨(some 4), .pure .move, [.c (.int .i64 0)], none⟩])
      .ret)
      .skip))
    (.seq (.ops [⟨(some 5), .pure .move, [.c (.int .i64 1)], none⟩])
    (.seq (.seq (.ops [⟨(some 10), .read (.load (some 15)), [.t 2], none⟩,
      ⟨(some 11), .pcall 514, [.t 10], none⟩,
      ⟨(some 12), .pure .lenL, [.t 11], none⟩,
      ⟨(some 13), .pure .move, [.c (.int .i64 0)], none⟩])
    (.block 0
      (.loop [1, 5, 11, 12, 13]
        (.seq (.ops [⟨(some 14), .pure (.bin .lss), [.t 13, .t 12], none⟩])
        (.seq (.cond (.t 14)
          .skip
          (.exit 0))
        (.seq (.block 1
          (.seq (.ops [⟨(some 15), .pure (.iaddrS 15), [.t 11, .t 13], none⟩,
            ⟨(some 16), .read (.load (some 15)), [.t 15], none⟩,
            ⟨(some 7), .new (.new 15 [.agg [.int .i64 0, .int .i64 0, .int .i64 0, .int .i64 0, .str [], .snil 11, .int .i64 0, .int .i64 0, .int .i64 0, .int .i64 0, .int .i64 0, .snil 6, .snil 13, .snil 17, .snil 15]]), [], none⟩,
            ⟨none, .eff (.store 15), [.t 7, .t 16], none⟩])
          (.ops [⟨(some 17), .pure .move, [.t 5], none⟩,
            ⟨(some 18), .read (.load (some 15)), [.t 7], none⟩,
            ⟨(some 19), .pure .move, [.t 1], none⟩,
            ⟨(some 20), .pure (.bin .sub), [.t 19, .c (.int .i64 1)], none⟩,
            ⟨(some 21), .pcall 509, [.t 18, .t 20], none⟩,
            ⟨(some 22), .pure (.bin .add), [.t 17, .t 21], none⟩,
            ⟨(some 5), .pure .move, [.t 22], none⟩])))
        (.ops [⟨(some 23), .pure (.bin .add), [.t 13, .c (.int .i64 1)], none⟩,
          ⟨(some 13), .pure .move, [.t 23], none⟩])))))))
    (.seq (.ops [⟨(some 24), .pure .move, [.t 5], none⟩,
      ⟨(some 4), .pure .move, [.t 24], none⟩])
    .ret))))) }
/-- datakit/schema.node -/
def ac513 : AFn :=
  { nt := 55, res := [.tmp 4], body :=
    (.seq (.ops [⟨(some 2), .new (.box 16), [.t 0], none⟩,
      ⟨(some 3), .new (.box 15), [.t 1], none⟩,
      ⟨(some 4), .pure .move, [.c (.int .i64 0)], none⟩])
    (.seq (.seq (.ops [⟨(some 10), .read (.load (some 15)), [.t 3], none⟩,
      ⟨(some 11), .pcall 562, [.t 10], none⟩,
      ⟨(some 12), .pure (.un .not), [.t 11], none⟩])
    (.cond (.t 12)
      (.seq (.ops [⟨(some 4), .pure .move, [.c (.int .i64 1)], none⟩])
      .ret)
      .skip))
    (.seq (.seq (.ops [⟨(some 13), .pure (.faddr 0), [.t 3], none⟩,
      ⟨(some 14), .read (.load none), [.t 13], none⟩,
      ⟨(some 15), .pure (.bin .eql), [.t 14, .c (.int .i64 7)], none⟩,
      ⟨(some 16), .pure .move, [.t 15], none⟩,
      ⟨(some 17), .pure (.faddr 4), [.t 3], some (16, true)⟩,
      ⟨(some 18), .read (.load none), [.t 17], some (16, true)⟩,
      ⟨(some 19), .pcall 563, [.t 18], some (16, true)⟩,
      ⟨(some 20), .pure (.un .not), [.t 19], some (16, true)⟩,
      ⟨(some 21), .pure .pick, [.t 16, .t 20, .c (.bool false)], none⟩])
    (.cond (.t 21)
      (.seq (.ops [⟨(some 4), .pure .move, [.c (.int .i64 7)], none⟩])
      .ret)
      .skip))
    (.seq (.seq (.ops [⟨(some 23), .read (.load (some 16)), [.t 2], none⟩,
      ⟨(some 24), .pure (.faddr 4), [.t 3], none⟩,
      ⟨(some 25), .read (.load none), [.t 24], none⟩,
      ⟨(some 26), .pcall 457, [.t 23, .t 25], none⟩,
      ⟨(some 22), .pure .move, [.t 26], none⟩,
      ⟨(some 27), .pure (.ext 0), [.t 22], none⟩,
      ⟨(some 28), .pure (.ext 1), [.t 22], none⟩,
      ⟨(some 5), .new (.new 15 [.agg [.int .i64 0, .int .i64 0, .int .i64 0, .int .i64 0, .str [], .snil 11, .int .i64 0, .int .i64 0, .int .i64 0, .int .i64 0, .int .i64 0, .snil 6, .snil 13, .snil 17, .snil 15]]), [], none⟩,
      ⟨none, .eff (.store 15), [.t 5, .t 27], none⟩,
      ⟨(some 6), .pure .move, [.t 28], none⟩])
    (.seq (.ops [⟨(some 29), .pure (.faddr 0), [.t 3], none⟩,
      ⟨(some 30), .read (.load none), [.t 29], none⟩,
      ⟨(some 31), .pure (.bin .eql), [.t 30, .c (.int .i64 14)], none⟩,
      ⟨(some 32), .pure .move, [.t 31], none⟩,
      ⟨(some 33), .pure .move, [.t 6], some (32, true)⟩,
      ⟨(some 34), .pure (.un .not), [.t 33], some (32, true)⟩,
      ⟨(some 35), .pure .pick, [.t 32, .t 34, .c (.bool false)], none⟩])
    (.cond (.t 35)
      (.seq (.ops [⟨(some 4), .pure .move, [.c (.int .i64 7)], none⟩])
      .ret)
      .skip)))
    (.seq (.ops [⟨(some 36), .new .mkMap, [], none⟩,
      ⟨(some 7), .pure .move, [.t 36], none⟩])
    (.seq (.seq (.ops [⟨(some 37), .pure (.faddr 13), [.t 3], none⟩,
      ⟨(some 38), .read (.load none), [.t 37], none⟩,
      ⟨(some 39), .pure .lenL, [.t 38], none⟩,
      ⟨(some 40), .pure .move, [.c (.int .i64 0)], none⟩])
    (.block 0
      (.loop [7, 38, 39, 40]
        (.seq (.ops [⟨(some 41), .pure (.bin .lss), [.t 40, .t 39], none⟩])
        (.seq (.cond (.t 41)
          .skip
          (.exit 0))
        (.seq (.block 1
          (.seq (.ops [⟨(some 42), .pure (.iaddrS 17), [.t 38, .t 40], none⟩,
            ⟨(some 43), .read (.load (some 17)), [.t 42], none⟩,
            ⟨(some 9), .new (.new 17 [.agg [.str [], .bool false, .int .i64 0, .int .i64 0, .int .i64 0, .int .i64 0, .str [], .snil 11, .int .i64 0, .int .i64 0, .int .i64 0, .int .i64 0, .int .i64 0, .snil 6, .snil 13, .snil 17, .snil 15]]), [], none⟩,
            ⟨none, .eff (.store 17), [.t 9, .t 43], none⟩])
          (.seq (.ops [⟨(some 44), .pure .move, [.t 7], none⟩,
            ⟨(some 45), .pure (.faddr 0), [.t 9], none⟩,
            ⟨(some 46), .read (.load none), [.t 45], none⟩,
            ⟨(some 47), .read (.lookup (.one .str) (.int .i64 0) false), [.t 44, .t 46], none⟩,
            ⟨(some 48), .pure (.bin .add), [.t 47, .c (.int .i64 1)], none⟩,
            ⟨none, .eff (.mapSet (.one .str)), [.t 44, .t 46, .t 48], none⟩])
          (.seq (.ops [⟨(some 49), .pure .move, [.t 7], none⟩,
            ⟨(some 50), .pure (.faddr 0), [.t 9], none⟩,
            ⟨(some 51), .read (.load none), [.t 50], none⟩,
            ⟨(some 52), .read (.lookup (.one .str) (.int .i64 0) false), [.t 49, .t 51], none⟩,
            ⟨(some 53), .pure (.bin .gtr), [.t 52, .c (.int .i64 1)], none⟩])
          (.cond (.t 53)
            (.seq (.ops [⟨(some 4), .pure .move, [.c (.int .i64 8)], none⟩])
            .ret)
            .skip)))))
        (.ops [⟨(some 54), .pure (.bin .add), [.t 40, .c (.int .i64 1)], none⟩,
          ⟨(some 40), .pure .move, [.t 54], none⟩])))))))
    (.seq (.ops [⟨(some 4), .pure .move, [.c (.int .i64 0)], none⟩])
    .ret))))))) }
/-- datakit/schema.parts -/
def ac514 : AFn :=
  { nt := 23, res := [.tmp 2], body :=
    (.seq (.ops [⟨(some 1), .new (.box 15), [.t 0], none⟩,
      ⟨(some 2), .pure .move, [.c (.snil 15)], none⟩])
    (.seq (.ops [⟨(some 3), .pure .move, [.c (.snil 15)], none⟩])
    (.seq (.seq (.ops [⟨(some 6), .pure (.faddr 13), [.t 1], none⟩,
      ⟨(some 7), .read (.load none), [.t 6], none⟩,
      ⟨(some 8), .pure .lenL, [.t 7], none⟩,
      ⟨(some 9), .pure .move, [.c (.int .i64 0)], none⟩])
    (.block 0
      (.loop [1, 3, 7, 8, 9]
        (.seq (.ops [⟨(some 10), .pure (.bin .lss), [.t 9, .t 8], none⟩])
        (.seq (.cond (.t 10)
          .skip
          (.exit 0))
        (.seq (.block 1
          (.seq (.ops [⟨(some 11), .pure (.iaddrS 17), [.t 7, .t 9], none⟩,
            ⟨(some 12), .read (.load (some 17)), [.t 11], none⟩,
            ⟨(some 5), .new (.new 17 [.agg [.str [], .bool false, .int .i64 0, .int .i64 0, .int .i64 0, .int .i64 0, .str [], .snil 11, .int .i64 0, .int .i64 0, .int .i64 0, .int .i64 0, .int .i64 0, .snil 6, .snil 13, .snil 17, .snil 15]]), [], none⟩,
            ⟨none, .eff (.store 17), [.t 5, .t 12], none⟩])
          (.ops [⟨(some 13), .pure .move, [.t 3], none⟩,
            ⟨(some 14), .pure (.faddr 2), [.t 5], none⟩,
            ⟨(some 15), .read (.load (some 15)), [.t 14], none⟩,
            ⟨(some 16), .new (.buildSlice 15 [.agg [.int .i64 0, .int .i64 0, .int .i64 0, .int .i64 0, .str [], .snil 11, .int .i64 0, .int .i64 0, .int .i64 0, .int .i64 0, .int .i64 0, .snil 6, .snil 13, .snil 17, .snil 15]] [0]), [.t 15], none⟩,
            ⟨(some 17), .eff (.append 15 208), [.t 13, .t 16], none⟩,
            ⟨(some 3), .pure .move, [.t 17], none⟩])))
        (.ops [⟨(some 18), .pure (.bin .add), [.t 9, .c (.int .i64 1)], none⟩,
          ⟨(some 9), .pure .move, [.t 18], none⟩])))))))
    (.seq (.ops [⟨(some 19), .pure .move, [.t 3], none⟩,
      ⟨(some 20), .pure (.faddr 14), [.t 1], none⟩,
      ⟨(some 21), .read (.load none), [.t 20], none⟩,
      ⟨(some 22), .eff (.append 15 208), [.t 19, .t 21], none⟩,
      ⟨(some 2), .pure .move, [.t 22], none⟩])
    .ret)))) }
/-- datakit/schema.clonePattern -/
def ac517 : AFn :=
  { nt := 26, res := [.cell 2 (some 6)], body :=
    (.seq (.ops [⟨(some 1), .new (.box 6), [.t 0], none⟩,
      ⟨(some 2), .new (.new 6 [.agg [.int .i64 0, .int .i64 0, .int .i64 0, .int .i64 0, .int .i64 0, .snil 6]]), [], none⟩])
    (.seq (.ops [⟨(some 4), .pure (.faddr 5), [.t 1], none⟩,
      ⟨(some 5), .read (.load none), [.t 4], none⟩,
      ⟨(some 6), .call 566, [.t 5], none⟩,
      ⟨(some 7), .pure (.faddr 5), [.t 1], none⟩,
      ⟨none, .eff (.store 1), [.t 7, .t 6], none⟩])
    (.seq (.seq (.ops [⟨(some 8), .pure (.faddr 5), [.t 1], none⟩,
      ⟨(some 9), .read (.load none), [.t 8], none⟩,
      ⟨(some 10), .pure .lenL, [.t 9], none⟩,
      ⟨(some 11), .pure .move, [.c (.int .i64 0)], none⟩])
    (.block 0
      (.loop [1, 2, 10, 11]
        (.seq (.ops [⟨(some 12), .pure (.bin .lss), [.t 11, .t 10], none⟩])
        (.seq (.cond (.t 12)
          .skip
          (.exit 0))
        (.seq (.block 1
          (.seq (.ops [⟨(some 13), .pure .move, [.t 11], none⟩,
            ⟨(some 3), .pure .move, [.t 13], none⟩])
          (.ops [⟨(some 14), .pure (.faddr 5), [.t 1], none⟩,
            ⟨(some 15), .read (.load none), [.t 14], none⟩,
            ⟨(some 16), .pure .move, [.t 3], none⟩,
            ⟨(some 17), .pure (.faddr 5), [.t 1], none⟩,
            ⟨(some 18), .read (.load none), [.t 17], none⟩,
            ⟨(some 19), .pure .move, [.t 3], none⟩,
            ⟨(some 20), .pure (.iaddrS 6), [.t 18, .t 19], none⟩,
            ⟨(some 21), .read (.load (some 6)), [.t 20], none⟩,
            ⟨(some 22), .pcall 517, [.t 21], none⟩,
            ⟨(some 23), .pure (.iaddrS 6), [.t 15, .t 16], none⟩,
            ⟨none, .eff (.store 6), [.t 23, .t 22], none⟩])))
        (.ops [⟨(some 24), .pure (.bin .add), [.t 11, .c (.int .i64 1)], none⟩,
          ⟨(some 11), .pure .move, [.t 24], none⟩])))))))
    (.seq (.ops [⟨(some 25), .read (.load (some 6)), [.t 1], none⟩,
      ⟨none, .eff (.store 6), [.t 2, .t 25], none⟩])
    .ret)))) }
/-- datakit/regex.Parse -/
def ac538 : AFn :=
  { nt := 31, res := [.cell 2 (some 6), .cell 3 none], body :=
    (.seq (.ops [⟨(some 2), .new (.new 6 [.agg [.int .i64 0, .int .i64 0, .int .i64 0, .int .i64 0, .int .i64 0, .snil 6]]), [], none⟩,
      ⟨(some 3), .new (.new 1 [.int .i64 0]), [], none⟩])
    (.seq (.ops [⟨(some 5), .pure (.mkfn 575), [.t 2, .t 3], none⟩,
      ⟨none, .bad, [], none⟩])
    (.seq (.ops [⟨(some 6), .pure .move, [.t 0], none⟩,
      ⟨(some 7), .pure (.build [.str [], .int .i64 0, .int .i64 0] [(0, 1)]), [.t 6], none⟩,
      ⟨(some 8), .new (.box 3), [.t 7], none⟩,
      ⟨(some 4), .pure .move, [.t 8], none⟩])
    (.seq (.ops [⟨(some 9), .pure .move, [.t 4], none⟩,
      ⟨(some 10), .call 576, [.t 9, .c (.int .i64 1)], none⟩,
      ⟨none, .eff (.store 6), [.t 2, .t 10], none⟩])
    (.seq (.seq (.ops [⟨(some 11), .pure .move, [.t 4], none⟩,
      ⟨(some 12), .pure .chk, [.t 11], none⟩,
      ⟨(some 13), .pure (.faddr 1), [.t 12], none⟩,
      ⟨(some 14), .read (.load none), [.t 13], none⟩,
      ⟨(some 15), .pure .move, [.t 0], none⟩,
      ⟨(some 16), .pure .lenS, [.t 15], none⟩,
      ⟨(some 17), .pure (.bin .lss), [.t 14, .t 16], none⟩,
      ⟨(some 18), .pure .move, [.t 17], none⟩,
      ⟨(some 19), .read (.load (some 6)), [.t 2], some (18, false)⟩,
      ⟨(some 20), .pcall 574, [.t 19], some (18, false)⟩,
      ⟨(some 21), .pure .move, [.t 0], some (18, false)⟩,
      ⟨(some 22), .pure (.bin .neq), [.t 20, .t 21], some (18, false)⟩,
      ⟨(some 23), .pure .pick, [.t 18, .c (.bool true), .t 22], none⟩,
      ⟨(some 24), .pure .move, [.t 23], none⟩,
      ⟨(some 25), .pure .move, [.t 0], some (24, false)⟩,
      ⟨(some 26), .pure (.bin .eql), [.t 25, .c (.str [])], some (24, false)⟩,
      ⟨(some 27), .pure .pick, [.t 24, .c (.bool true), .t 26], none⟩])
    (.cond (.t 27)
      (.ops [⟨(some 28), .pure (.build [] []), [], none⟩,
        ⟨(some 29), .pure (.mkifc 157), [.t 28], none⟩,
        ⟨none, .bad, [], none⟩])
      .skip))
    (.seq (.ops [⟨(some 30), .read (.load (some 6)), [.t 2], none⟩,
      ⟨none, .eff (.store 6), [.t 2, .t 30], none⟩,
      ⟨none, .eff (.store 1), [.t 3, .c (.int .i64 0)], none⟩])
    .ret)))))) }
/-- datakit/datakitref07.Num -/
def ac548 : AFn :=
  { nt := 5, res := [.cell 2 (some 13)], body :=
    (.seq (.ops [⟨(some 1), .new (.box 3), [.t 0], none⟩,
      ⟨(some 2), .new (.new 13 [.agg [.int .i64 0, .bool false, .bool false, .str [], .int .i64 0, .int .i64 0, .int .i64 0, .int .i64 0, .int .i64 0, .str [], .snil 1, .snil 13, .snil 14]]), [], none⟩])
    (.seq (.ops [⟨(some 3), .read (.load (some 3)), [.t 1], none⟩,
      ⟨(some 4), .pure (.build [.int .i64 0, .bool false, .bool false, .str [], .int .i64 0, .int .i64 0, .int .i64 0, .int .i64 0, .int .i64 0, .str [], .snil 1, .snil 13, .snil 14] [(0, 1), (2, 3)]), [.c (.int .i64 2), .t 3], none⟩,
      ⟨none, .eff (.store 13), [.t 2, .t 4], none⟩])
    .ret)) }
/-- datakit/datakitref02.FromInt -/
def ac549 : AFn :=
  { nt := 23, res := [.cell 2 (some 3)], body :=
    (.seq (.ops [⟨(some 2), .new (.new 3 [.agg [.bool false, .str [], .int .i64 0]]), [], none⟩])
    (.seq (.ops [⟨(some 6), .pure .move, [.t 0], none⟩,
      ⟨(some 7), .pcall 579, [.t 6], none⟩,
      ⟨(some 3), .pure .move, [.t 7], none⟩])
    (.seq (.seq (.ops [⟨(some 8), .pure .move, [.t 0], none⟩,
      ⟨(some 9), .pure (.bin .lss), [.t 8, .c (.int .i64 0)], none⟩])
    (.cond (.t 9)
      (.ops [⟨(some 10), .pure .move, [.t 0], none⟩,
        ⟨(some 11), .pure (.bin .add), [.t 10, .c (.int .i64 1)], none⟩,
        ⟨(some 12), .pure (.un .neg), [.t 11], none⟩,
        ⟨(some 13), .pcall 579, [.t 12], none⟩,
        ⟨(some 14), .pcall 580, [.t 13, .c (.str [49])], none⟩,
        ⟨(some 3), .pure .move, [.t 14], none⟩])
      .skip))
    (.seq (.ops [⟨(some 16), .pure .move, [.t 0], none⟩,
      ⟨(some 17), .pure (.bin .lss), [.t 16, .c (.int .i64 0)], none⟩,
      ⟨(some 18), .pure .move, [.t 3], none⟩,
      ⟨(some 19), .pcall 581, [.t 17, .t 18, .c (.int .i64 0)], none⟩,
      ⟨(some 15), .pure .move, [.t 19], none⟩,
      ⟨(some 20), .pure (.ext 0), [.t 15], none⟩,
      ⟨(some 21), .pure (.ext 1), [.t 15], none⟩,
      ⟨(some 4), .new (.new 3 [.agg [.bool false, .str [], .int .i64 0]]), [], none⟩,
      ⟨none, .eff (.store 3), [.t 4, .t 20], none⟩,
      ⟨(some 5), .pure .move, [.t 21], none⟩])
    (.seq (.ops [⟨(some 22), .read (.load (some 3)), [.t 4], none⟩,
      ⟨none, .eff (.store 3), [.t 2, .t 22], none⟩])
    .ret))))) }
/-- datakit/validate.within -/
def ac550 : AFn :=
  { nt := 19, res := [.tmp 6], body :=
    (.seq (.ops [⟨(some 6), .pure .move, [.c (.bool false)], none⟩])
    (.seq (.ops [⟨(some 7), .pure .move, [.t 0], none⟩,
      ⟨(some 8), .pure .move, [.t 1], none⟩,
      ⟨(some 9), .pure (.bin .geq), [.t 7, .t 8], none⟩,
      ⟨(some 10), .pure .move, [.t 9], none⟩,
      ⟨(some 11), .pure .move, [.t 2], some (10, true)⟩,
      ⟨(some 12), .pure (.bin .eql), [.t 11, .c (.int .i64 (-1))], some (10, true)⟩,
      ⟨(some 13), .pure .move, [.t 12], some (10, true)⟩,
      ⟨(some 14), .pure .move, [.t 0], some (13, false)⟩,
      ⟨(some 15), .pure .move, [.t 2], some (13, false)⟩,
      ⟨(some 16), .pure (.bin .leq), [.t 14, .t 15], some (13, false)⟩,
      ⟨(some 17), .pure .pick, [.t 13, .c (.bool true), .t 16], some (10, true)⟩,
      ⟨(some 18), .pure .pick, [.t 10, .t 17, .c (.bool false)], none⟩,
      ⟨(some 6), .pure .move, [.t 18], none⟩])
    .ret)) }
/-- datakit/regex.Match -/
def ac552 : AFn :=
  { nt := 24, res := [.tmp 4], body :=
    (.seq (.ops [⟨(some 2), .new (.box 6), [.t 0], none⟩,
      ⟨(some 4), .pure .move, [.c (.bool false)], none⟩])
    (.seq (.seq (.ops [⟨(some 7), .read (.load (some 6)), [.t 2], none⟩,
      ⟨(some 8), .pcall 358, [.t 7], none⟩,
      ⟨(some 9), .pure (.un .not), [.t 8], none⟩])
    (.cond (.t 9)
      (.seq (.ops [⟨(some 4), .pure .move, [.c (.bool false)], none⟩])
      .ret)
      .skip))
    (.seq (.seq (.ops [⟨(some 10), .read (.load (some 6)), [.t 2], none⟩,
      ⟨(some 11), .pure .move, [.t 1], none⟩,
      ⟨(some 12), .new (.buildSlice 1 [.int .i64 0] [0]), [.c (.int .i64 0)], none⟩,
      ⟨(some 13), .pcall 582, [.t 10, .t 11, .t 12], none⟩,
      ⟨(some 14), .pure .lenL, [.t 13], none⟩,
      ⟨(some 15), .pure .move, [.c (.int .i64 0)], none⟩])
    (.block 0
      (.loop [1, 13, 14, 15]
        (.seq (.ops [⟨(some 16), .pure (.bin .lss), [.t 15, .t 14], none⟩])
        (.seq (.cond (.t 16)
          .skip
          (.exit 0))
        (.seq (.block 1
          (.seq (.ops [⟨(some 17), .pure (.iaddrS 1), [.t 13, .t 15], none⟩,
            ⟨(some 18), .read (.load none), [.t 17], none⟩,
            ⟨(some 6), .pure .move, [.t 18], none⟩])
          (.seq (.ops [⟨(some 19), .pure .move, [.t 6], none⟩,
            ⟨(some 20), .pure .move, [.t 1], none⟩,
            ⟨(some 21), .pure .lenS, [.t 20], none⟩,
            ⟨(some 22), .pure (.bin .eql), [.t 19, .t 21], none⟩])
          (.cond (.t 22)
            (.seq (.ops [⟨(some 4), .pure .move, [.c (.bool true)], none⟩])
            .ret)
            .skip))))
        (.ops [⟨(some 23), .pure (.bin .add), [.t 15, .c (.int .i64 1)], none⟩,
          ⟨(some 15), .pure .move, [.t 23], none⟩])))))))
    (.seq (.ops [⟨(some 4), .pure .move, [.c (.bool false)], none⟩])
    .ret)))) }
/-- datakit/formats.Check -/
def ac553 : AFn :=
  { nt := 19, res := [.tmp 4], body :=
    (.seq (.ops [⟨(some 4), .pure .move, [.c (.bool false)], none⟩])
    (.seq (.ops [⟨(some 8), .pure .move, [.t 0], none⟩,
      ⟨(some 9), .pcall 583, [.t 8], none⟩,
      ⟨(some 7), .pure .move, [.t 9], none⟩,
      ⟨(some 10), .pure (.ext 0), [.t 7], none⟩,
      ⟨(some 11), .pure (.ext 1), [.t 7], none⟩,
      ⟨(some 5), .new (.new 6 [.agg [.int .i64 0, .int .i64 0, .int .i64 0, .int .i64 0, .int .i64 0, .snil 6]]), [], none⟩,
      ⟨none, .eff (.store 6), [.t 5, .t 10], none⟩,
      ⟨(some 6), .pure .move, [.t 11], none⟩])
    (.seq (.ops [⟨(some 12), .pure .move, [.t 6], none⟩,
      ⟨(some 13), .pure (.bin .eql), [.t 12, .c (.int .i64 0)], none⟩,
      ⟨(some 14), .pure .move, [.t 13], none⟩,
      ⟨(some 15), .read (.load (some 6)), [.t 5], some (14, true)⟩,
      ⟨(some 16), .pure .move, [.t 1], some (14, true)⟩,
      ⟨(some 17), .pcall 552, [.t 15, .t 16], some (14, true)⟩,
      ⟨(some 18), .pure .pick, [.t 14, .t 17, .c (.bool false)], none⟩,
      ⟨(some 4), .pure .move, [.t 18], none⟩])
    .ret))) }
/-- datakit/validate.list -/
def ac554 : AFn :=
  { nt := 39, res := [.tmp 6], body :=
    (.seq (.ops [⟨(some 3), .new (.box 16), [.t 0], none⟩,
      ⟨(some 4), .new (.box 15), [.t 1], none⟩,
      ⟨(some 5), .new (.box 13), [.t 2], none⟩,
      ⟨(some 6), .pure .move, [.c (.bool false)], none⟩])
    (.seq (.seq (.ops [⟨(some 9), .pure (.faddr 0), [.t 5], none⟩,
      ⟨(some 10), .read (.load none), [.t 9], none⟩,
      ⟨(some 11), .pure (.bin .neq), [.t 10, .c (.int .i64 6)], none⟩,
      ⟨(some 12), .pure .move, [.t 11], none⟩,
      ⟨(some 13), .pure (.faddr 11), [.t 5], some (12, false)⟩,
      ⟨(some 14), .read (.load none), [.t 13], some (12, false)⟩,
      ⟨(some 15), .pure .lenL, [.t 14], some (12, false)⟩,
      ⟨(some 16), .pure (.faddr 2), [.t 4], some (12, false)⟩,
      ⟨(some 17), .read (.load none), [.t 16], some (12, false)⟩,
      ⟨(some 18), .pure (.faddr 3), [.t 4], some (12, false)⟩,
      ⟨(some 19), .read (.load none), [.t 18], some (12, false)⟩,
      ⟨(some 20), .pcall 550, [.t 15, .t 17, .t 19], some (12, false)⟩,
      ⟨(some 21), .pure (.un .not), [.t 20], some (12, false)⟩,
      ⟨(some 22), .pure .pick, [.t 12, .c (.bool true), .t 21], none⟩])
    (.cond (.t 22)
      (.seq (.ops [⟨(some 6), .pure .move, [.c (.bool false)], none⟩])
      .ret)
      .skip))
    (.seq (.seq (.ops [⟨(some 23), .pure (.faddr 11), [.t 5], none⟩,
      ⟨(some 24), .read (.load none), [.t 23], none⟩,
      ⟨(some 25), .pure .lenL, [.t 24], none⟩,
      ⟨(some 26), .pure .move, [.c (.int .i64 0)], none⟩])
    (.block 0
      (.loop [3, 4, 24, 25, 26]
        (.seq (.ops [⟨(some 27), .pure (.bin .lss), [.t 26, .t 25], none⟩])
        (.seq (.cond (.t 27)
          .skip
          (.exit 0))
        (.seq (.block 1
          (.seq (.ops [⟨(some 28), .pure (.iaddrS 13), [.t 24, .t 26], none⟩,
            ⟨(some 29), .read (.load (some 13)), [.t 28], none⟩,
            ⟨(some 8), .new (.new 13 [.agg [.int .i64 0, .bool false, .bool false, .str [], .int .i64 0, .int .i64 0, .int .i64 0, .int .i64 0, .int .i64 0, .str [], .snil 1, .snil 13, .snil 14]]), [], none⟩,
            ⟨none, .eff (.store 13), [.t 8, .t 29], none⟩])
          (.seq (.ops [⟨(some 30), .read (.load (some 16)), [.t 3], none⟩,
            ⟨(some 31), .pure (.faddr 14), [.t 4], none⟩,
            ⟨(some 32), .read (.load none), [.t 31], none⟩,
            ⟨(some 33), .pure (.iaddrS 15), [.t 32, .c (.int .i64 0)], none⟩,
            ⟨(some 34), .read (.load (some 15)), [.t 33], none⟩,
            ⟨(some 35), .read (.load (some 13)), [.t 8], none⟩,
            ⟨(some 36), .pcall 505, [.t 30, .t 34, .t 35], none⟩,
            ⟨(some 37), .pure (.un .not), [.t 36], none⟩])
          (.cond (.t 37)
            (.seq (.ops [⟨(some 6), .pure .move, [.c (.bool false)], none⟩])
            .ret)
            .skip))))
        (.ops [⟨(some 38), .pure (.bin .add), [.t 26, .c (.int .i64 1)], none⟩,
          ⟨(some 26), .pure .move, [.t 38], none⟩])))))))
    (.seq (.ops [⟨(some 6), .pure .move, [.c (.bool true)], none⟩])
    .ret)))) }
/-- datakit/validate.fields -/
def ac555 : AFn :=
  { nt := 78, res := [.tmp 6], body :=
    (.seq (.ops [⟨(some 3), .new (.box 16), [.t 0], none⟩,
      ⟨(some 4), .new (.box 15), [.t 1], none⟩,
      ⟨(some 5), .new (.box 13), [.t 2], none⟩,
      ⟨(some 6), .pure .move, [.c (.bool false)], none⟩])
    (.seq (.seq (.ops [⟨(some 16), .pure (.faddr 0), [.t 5], none⟩,
      ⟨(some 17), .read (.load none), [.t 16], none⟩,
      ⟨(some 18), .pure (.bin .neq), [.t 17, .c (.int .i64 7)], none⟩])
    (.cond (.t 18)
      (.seq (.ops [⟨(some 6), .pure .move, [.c (.bool false)], none⟩])
      .ret)
      .skip))
    (.seq (.ops [⟨(some 19), .new .mkMap, [], none⟩,
      ⟨(some 7), .pure .move, [.t 19], none⟩])
    (.seq (.seq (.ops [⟨(some 20), .pure (.faddr 13), [.t 4], none⟩,
      ⟨(some 21), .read (.load none), [.t 20], none⟩,
      ⟨(some 22), .pure .lenL, [.t 21], none⟩,
      ⟨(some 23), .pure .move, [.c (.int .i64 0)], none⟩])
    (.block 0
      (.loop [3, 4, 5, 7, 21, 22, 23]
        (.seq (.ops [⟨(some 24), .pure (.bin .lss), [.t 23, .t 22], none⟩])
        (.seq (.cond (.t 24)
          .skip
          (.exit 0))
        (.seq (.block 1
          (.seq (.ops [⟨(some 25), .pure .move, [.t 23], none⟩,
            ⟨(some 26), .pure (.iaddrS 17), [.t 21, .t 23], none⟩,
            ⟨(some 27), .read (.load (some 17)), [.t 26], none⟩,
            ⟨(some 9), .new (.new 17 [.agg [.str [], .bool false, .int .i64 0, .int .i64 0, .int .i64 0, .int .i64 0, .str [], .snil 11, .int .i64 0, .int .i64 0, .int .i64 0, .int .i64 0, .int .i64 0, .snil 6, .snil 13, .snil 17, .snil 15]]), [], none⟩,
            ⟨(some 8), .pure .move, [.t 25], none⟩,
            ⟨none, .eff (.store 17), [.t 9, .t 27], none⟩])
          (.seq (.ops [⟨(some 28), .pure .move, [.t 7], none⟩,
            ⟨(some 29), .pure (.faddr 0), [.t 9], none⟩,
            ⟨(some 30), .read (.load none), [.t 29], none⟩,
            ⟨(some 31), .pure .move, [.t 8], none⟩,
            ⟨(some 32), .pure (.bin .add), [.t 31, .c (.int .i64 1)], none⟩,
            ⟨none, .eff (.mapSet (.one .str)), [.t 28, .t 30, .t 32], none⟩])
          (.seq (.ops [⟨(some 34), .read (.load (some 13)), [.t 5], none⟩,
            ⟨(some 35), .pure (.faddr 0), [.t 9], none⟩,
            ⟨(some 36), .read (.load none), [.t 35], none⟩,
            ⟨(some 37), .pcall 61, [.t 34, .t 36], none⟩,
            ⟨(some 33), .pure .move, [.t 37], none⟩,
            ⟨(some 38), .pure (.ext 0), [.t 33], none⟩,
            ⟨(some 39), .pure (.ext 1), [.t 33], none⟩,
            ⟨(some 10), .new (.new 13 [.agg [.int .i64 0, .bool false, .bool false, .str [], .int .i64 0, .int .i64 0, .int .i64 0, .int .i64 0, .int .i64 0, .str [], .snil 1, .snil 13, .snil 14]]), [], none⟩,
            ⟨none, .eff (.store 13), [.t 10, .t 38], none⟩,
            ⟨(some 11), .pure .move, [.t 39], none⟩])
          (.seq (.ops [⟨(some 40), .pure (.faddr 1), [.t 9], none⟩,
            ⟨(some 41), .read (.load none), [.t 40], none⟩,
            ⟨(some 42), .pure .move, [.t 41], none⟩,
            ⟨(some 43), .pure .move, [.t 11], some (42, true)⟩,
            ⟨(some 44), .pure (.un .not), [.t 43], some (42, true)⟩,
            ⟨(some 45), .pure .pick, [.t 42, .t 44, .c (.bool false)], none⟩])
          (.cond (.t 45)
            (.seq (.ops [⟨(some 6), .pure .move, [.c (.bool false)], none⟩])
            .ret)
            .skip))))))
        (.ops [⟨(some 46), .pure (.bin .add), [.t 23, .c (.int .i64 1)], none⟩,
          ⟨(some 23), .pure .move, [.t 46], none⟩])))))))
    (.seq (.seq (.ops [⟨(some 47), .pure (.faddr 12), [.t 5], none⟩,
      ⟨(some 48), .read (.load none), [.t 47], none⟩,
      ⟨(some 49), .pure .lenL, [.t 48], none⟩,
      ⟨(some 50), .pure .move, [.c (.int .i64 0)], none⟩])
    (.block 2
      (.loop [3, 4, 7, 48, 49, 50]
        (.seq (.ops [⟨(some 51), .pure (.bin .lss), [.t 50, .t 49], none⟩])
        (.seq (.cond (.t 51)
          .skip
          (.exit 2))
        (.seq (.block 3
          (.seq (.ops [⟨(some 52), .pure (.iaddrS 14), [.t 48, .t 50], none⟩,
            ⟨(some 53), .read (.load (some 14)), [.t 52], none⟩,
            ⟨(some 13), .new (.new 14 [.agg [.str [], .int .i64 0, .bool false, .bool false, .str [], .int .i64 0, .int .i64 0, .int .i64 0, .int .i64 0, .int .i64 0, .str [], .snil 1, .snil 13, .snil 14]]), [], none⟩,
            ⟨none, .eff (.store 14), [.t 13, .t 53], none⟩])
          (.seq (.ops [⟨(some 54), .pure (.faddr 14), [.t 4], none⟩,
            ⟨(some 55), .read (.load none), [.t 54], none⟩,
            ⟨(some 56), .pure (.iaddrS 15), [.t 55, .c (.int .i64 0)], none⟩,
            ⟨(some 57), .read (.load (some 15)), [.t 56], none⟩,
            ⟨(some 14), .new (.new 15 [.agg [.int .i64 0, .int .i64 0, .int .i64 0, .int .i64 0, .str [], .snil 11, .int .i64 0, .int .i64 0, .int .i64 0, .int .i64 0, .int .i64 0, .snil 6, .snil 13, .snil 17, .snil 15]]), [], none⟩,
            ⟨none, .eff (.store 15), [.t 14, .t 57], none⟩])
          (.seq (.seq (.ops [⟨(some 58), .pure .move, [.t 7], none⟩,
            ⟨(some 59), .pure (.faddr 0), [.t 13], none⟩,
            ⟨(some 60), .read (.load none), [.t 59], none⟩,
            ⟨(some 61), .read (.lookup (.one .str) (.int .i64 0) false), [.t 58, .t 60], none⟩,
            ⟨(some 15), .pure .move, [.t 61], none⟩])
          (.seq (.ops [⟨(some 62), .pure .move, [.t 15], none⟩,
            ⟨(some 63), .pure (.bin .gtr), [.t 62, .c (.int .i64 0)], none⟩])
          (.cond (.t 63)
            (.ops [⟨(some 64), .pure (.faddr 13), [.t 4], none⟩,
              ⟨(some 65), .read (.load none), [.t 64], none⟩,
              ⟨(some 66), .pure .move, [.t 15], none⟩,
              ⟨(some 67), .pure (.bin .sub), [.t 66, .c (.int .i64 1)], none⟩,
              ⟨(some 68), .pure (.iaddrS 17), [.t 65, .t 67], none⟩,
              ⟨(some 69), .pure (.faddr 2), [.t 68], none⟩,
              ⟨(some 70), .read (.load (some 15)), [.t 69], none⟩,
              ⟨none, .eff (.store 15), [.t 14, .t 70], none⟩])
            .skip)))
          (.seq (.ops [⟨(some 71), .read (.load (some 16)), [.t 3], none⟩,
            ⟨(some 72), .read (.load (some 15)), [.t 14], none⟩,
            ⟨(some 73), .pure (.faddr 1), [.t 13], none⟩,
            ⟨(some 74), .read (.load (some 13)), [.t 73], none⟩,
            ⟨(some 75), .pcall 505, [.t 71, .t 72, .t 74], none⟩,
            ⟨(some 76), .pure (.un .not), [.t 75], none⟩])
          (.cond (.t 76)
            (.seq (.ops [⟨(some 6), .pure .move, [.c (.bool false)], none⟩])
            .ret)
            .skip))))))
        (.ops [⟨(some 77), .pure (.bin .add), [.t 50, .c (.int .i64 1)], none⟩,
          ⟨(some 50), .pure .move, [.t 77], none⟩])))))))
    (.seq (.ops [⟨(some 6), .pure .move, [.c (.bool true)], none⟩])
    .ret)))))) }
/-- datakit/schema.form -/
def ac562 : AFn :=
  { nt := 165, res := [.tmp 2], body :=
    (.seq (.ops [⟨(some 1), .new (.box 15), [.t 0], none⟩,
      ⟨(some 2), .pure .move, [.c (.bool false)], none⟩])
    (.seq (.ops [⟨(some 9), .read (.load (some 15)), [.t 1], none⟩,
      ⟨(some 3), .new (.new 15 [.agg [.int .i64 0, .int .i64 0, .int .i64 0, .int .i64 0, .str [], .snil 11, .int .i64 0, .int .i64 0, .int .i64 0, .int .i64 0, .int .i64 0, .snil 6, .snil 13, .snil 17, .snil 15]]), [], none⟩,
      ⟨none, .eff (.store 15), [.t 3, .t 9], none⟩])
    (.seq (.ops [⟨(some 10), .pure (.faddr 0), [.t 3], none⟩,
      ⟨none, .eff (.store 1), [.t 10, .c (.int .i64 0)], none⟩])
    (.seq (.seq (.ops [⟨(some 11), .pure (.faddr 0), [.t 1], none⟩,
      ⟨(some 12), .read (.load none), [.t 11], none⟩])
    (.block 0
      (.seq (.seq (.ops [⟨(some 14), .pure (.bin .eql), [.t 12, .c (.int .i64 1)], none⟩,
        ⟨(some 13), .pure .move, [.t 14], none⟩])
      (.cond (.t 13)
        .skip
        (.ops [⟨(some 15), .pure (.bin .eql), [.t 12, .c (.int .i64 2)], none⟩,
          ⟨(some 13), .pure .move, [.t 15], none⟩])))
      (.cond (.t 13)
        .skip
        (.seq (.ops [⟨(some 17), .pure (.bin .eql), [.t 12, .c (.int .i64 3)], none⟩,
          ⟨(some 16), .pure .move, [.t 17], none⟩])
        (.cond (.t 16)
          (.seq (.ops [⟨(some 18), .pure (.faddr 1), [.t 3], none⟩,
            ⟨none, .eff (.store 1), [.t 18, .c (.int .i64 0)], none⟩])
          (.seq (.ops [⟨(some 19), .pure (.faddr 1), [.t 1], none⟩,
            ⟨(some 20), .read (.load none), [.t 19], none⟩,
            ⟨(some 21), .pure (.bin .lss), [.t 20, .c (.int .i64 0)], none⟩,
            ⟨(some 22), .pure .move, [.t 21], none⟩,
            ⟨(some 23), .pure (.faddr 1), [.t 1], some (22, false)⟩,
            ⟨(some 24), .read (.load none), [.t 23], some (22, false)⟩,
            ⟨(some 25), .pure (.bin .gtr), [.t 24, .c (.int .i64 255)], some (22, false)⟩,
            ⟨(some 26), .pure .pick, [.t 22, .c (.bool true), .t 25], none⟩])
          (.cond (.t 26)
            (.seq (.ops [⟨(some 2), .pure .move, [.c (.bool false)], none⟩])
            .ret)
            .skip)))
          (.seq (.ops [⟨(some 28), .pure (.bin .eql), [.t 12, .c (.int .i64 4)], none⟩,
            ⟨(some 27), .pure .move, [.t 28], none⟩])
          (.cond (.t 27)
            (.seq (.ops [⟨(some 29), .pure (.build [.snil 11] []), [], none⟩,
              ⟨(some 30), .pure (.faddr 5), [.t 3], none⟩,
              ⟨none, .eff (.store 1), [.t 30, .t 29], none⟩])
            (.seq (.ops [⟨(some 31), .pure (.faddr 5), [.t 1], none⟩,
              ⟨(some 32), .read (.load (some 1)), [.t 31], none⟩,
              ⟨(some 33), .pcall 229, [.t 32], none⟩,
              ⟨(some 34), .pure (.un .not), [.t 33], none⟩])
            (.cond (.t 34)
              (.seq (.ops [⟨(some 2), .pure .move, [.c (.bool false)], none⟩])
              .ret)
              .skip)))
            (.seq (.seq (.ops [⟨(some 36), .pure (.bin .eql), [.t 12, .c (.int .i64 5)], none⟩,
              ⟨(some 35), .pure .move, [.t 36], none⟩])
            (.cond (.t 35)
              .skip
              (.ops [⟨(some 37), .pure (.bin .eql), [.t 12, .c (.int .i64 9)], none⟩,
                ⟨(some 35), .pure .move, [.t 37], none⟩])))
            (.cond (.t 35)
              (.seq (.ops [⟨(some 38), .pure (.faddr 2), [.t 3], none⟩,
                ⟨none, .eff (.store 1), [.t 38, .c (.int .i64 0)], none⟩,
                ⟨(some 39), .pure (.faddr 3), [.t 3], none⟩,
                ⟨none, .eff (.store 1), [.t 39, .c (.int .i64 0)], none⟩])
              (.seq (.ops [⟨(some 4), .pure .move, [.c (.int .i64 65536)], none⟩])
              (.seq (.seq (.ops [⟨(some 40), .pure (.faddr 0), [.t 1], none⟩,
                ⟨(some 41), .read (.load none), [.t 40], none⟩,
                ⟨(some 42), .pure (.bin .eql), [.t 41, .c (.int .i64 9)], none⟩])
              (.cond (.t 42)
                (.seq (.ops [⟨(some 43), .pure (.faddr 14), [.t 3], none⟩,
                  ⟨none, .eff (.store 1), [.t 43, .c (.snil 15)], none⟩])
                (.ops [⟨(some 4), .pure .move, [.c (.int .i64 65536)], none⟩]))
                .skip))
              (.seq (.ops [⟨(some 44), .pure (.faddr 2), [.t 1], none⟩,
                ⟨(some 45), .read (.load none), [.t 44], none⟩,
                ⟨(some 46), .pure (.bin .lss), [.t 45, .c (.int .i64 0)], none⟩,
                ⟨(some 47), .pure .move, [.t 46], none⟩,
                ⟨(some 48), .pure (.faddr 2), [.t 1], some (47, false)⟩,
                ⟨(some 49), .read (.load none), [.t 48], some (47, false)⟩,
                ⟨(some 50), .pure .move, [.t 4], some (47, false)⟩,
                ⟨(some 51), .pure (.bin .gtr), [.t 49, .t 50], some (47, false)⟩,
                ⟨(some 52), .pure .pick, [.t 47, .c (.bool true), .t 51], none⟩,
                ⟨(some 53), .pure .move, [.t 52], none⟩,
                ⟨(some 54), .pure (.faddr 3), [.t 1], some (53, false)⟩,
                ⟨(some 55), .read (.load none), [.t 54], some (53, false)⟩,
                ⟨(some 56), .pure (.bin .neq), [.t 55, .c (.int .i64 (-1))], some (53, false)⟩,
                ⟨(some 57), .pure .move, [.t 56], some (53, false)⟩,
                ⟨(some 58), .pure (.faddr 3), [.t 1], some (57, true)⟩,
                ⟨(some 59), .read (.load none), [.t 58], some (57, true)⟩,
                ⟨(some 60), .pure (.faddr 2), [.t 1], some (57, true)⟩,
                ⟨(some 61), .read (.load none), [.t 60], some (57, true)⟩,
                ⟨(some 62), .pure (.bin .lss), [.t 59, .t 61], some (57, true)⟩,
                ⟨(some 63), .pure .move, [.t 62], some (57, true)⟩,
                ⟨(some 64), .pure (.faddr 3), [.t 1], some (63, false)⟩,
                ⟨(some 65), .read (.load none), [.t 64], some (63, false)⟩,
                ⟨(some 66), .pure .move, [.t 4], some (63, false)⟩,
                ⟨(some 67), .pure (.bin .gtr), [.t 65, .t 66], some (63, false)⟩,
                ⟨(some 68), .pure .pick, [.t 63, .c (.bool true), .t 67], some (57, true)⟩,
                ⟨(some 69), .pure .pick, [.t 57, .t 68, .c (.bool false)], some (53, false)⟩,
                ⟨(some 70), .pure .pick, [.t 53, .c (.bool true), .t 69], none⟩,
                ⟨(some 71), .pure .move, [.t 70], none⟩,
                ⟨(some 72), .pure (.faddr 0), [.t 1], some (71, false)⟩,
                ⟨(some 73), .read (.load none), [.t 72], some (71, false)⟩,
                ⟨(some 74), .pure (.bin .eql), [.t 73, .c (.int .i64 9)], some (71, false)⟩,
                ⟨(some 75), .pure .move, [.t 74], some (71, false)⟩,
                ⟨(some 76), .pure (.faddr 14), [.t 1], some (75, true)⟩,
                ⟨(some 77), .read (.load none), [.t 76], some (75, true)⟩,
                ⟨(some 78), .pure .lenL, [.t 77], some (75, true)⟩,
                ⟨(some 79), .pure (.bin .neq), [.t 78, .c (.int .i64 1)], some (75, true)⟩,
                ⟨(some 80), .pure .pick, [.t 75, .t 79, .c (.bool false)], some (71, false)⟩,
                ⟨(some 81), .pure .pick, [.t 71, .c (.bool true), .t 80], none⟩])
              (.cond (.t 81)
                (.seq (.ops [⟨(some 2), .pure .move, [.c (.bool false)], none⟩])
                .ret)
                .skip)))))
              (.seq (.ops [⟨(some 83), .pure (.bin .eql), [.t 12, .c (.int .i64 6)], none⟩,
                ⟨(some 82), .pure .move, [.t 83], none⟩])
              (.cond (.t 82)
                (.seq (.ops [⟨(some 84), .pure (.build [.int .i64 0, .int .i64 0, .int .i64 0, .int .i64 0, .int .i64 0, .snil 6] []), [], none⟩,
                  ⟨(some 85), .pure (.faddr 6), [.t 3], none⟩,
                  ⟨none, .eff (.store 6), [.t 85, .t 84], none⟩])
                (.seq (.ops [⟨(some 86), .pure (.faddr 6), [.t 1], none⟩,
                  ⟨(some 87), .read (.load (some 6)), [.t 86], none⟩,
                  ⟨(some 88), .pcall 358, [.t 87], none⟩,
                  ⟨(some 89), .pure (.un .not), [.t 88], none⟩])
                (.cond (.t 89)
                  (.seq (.ops [⟨(some 2), .pure .move, [.c (.bool false)], none⟩])
                  .ret)
                  .skip)))
                (.seq (.seq (.ops [⟨(some 91), .pure (.bin .eql), [.t 12, .c (.int .i64 7)], none⟩,
                  ⟨(some 90), .pure .move, [.t 91], none⟩])
                (.cond (.t 90)
                  .skip
                  (.ops [⟨(some 92), .pure (.bin .eql), [.t 12, .c (.int .i64 14)], none⟩,
                    ⟨(some 90), .pure .move, [.t 92], none⟩])))
                (.cond (.t 90)
                  (.ops [⟨(some 93), .pure (.faddr 4), [.t 3], none⟩,
                    ⟨none, .eff (.store 1), [.t 93, .c (.str [])], none⟩])
                  (.seq (.ops [⟨(some 95), .pure (.bin .eql), [.t 12, .c (.int .i64 8)], none⟩,
                    ⟨(some 94), .pure .move, [.t 95], none⟩])
                  (.cond (.t 94)
                    (.seq (.ops [⟨(some 96), .pure (.faddr 12), [.t 3], none⟩,
                      ⟨none, .eff (.store 1), [.t 96, .c (.snil 13)], none⟩])
                    (.seq (.seq (.ops [⟨(some 97), .pure (.faddr 12), [.t 1], none⟩,
                      ⟨(some 98), .read (.load none), [.t 97], none⟩,
                      ⟨(some 99), .pure .lenL, [.t 98], none⟩,
                      ⟨(some 100), .pure (.bin .gtr), [.t 99, .c (.int .i64 256)], none⟩])
                    (.cond (.t 100)
                      (.seq (.ops [⟨(some 2), .pure .move, [.c (.bool false)], none⟩])
                      .ret)
                      .skip))
                    (.seq (.ops [⟨(some 101), .pure (.faddr 12), [.t 1], none⟩,
                      ⟨(some 102), .read (.load none), [.t 101], none⟩,
                      ⟨(some 103), .pure .lenL, [.t 102], none⟩,
                      ⟨(some 104), .pure .move, [.c (.int .i64 0)], none⟩])
                    (.block 1
                      (.loop [3, 102, 103, 104]
                        (.seq (.ops [⟨(some 105), .pure (.bin .lss), [.t 104, .t 103], none⟩])
                        (.seq (.cond (.t 105)
                          .skip
                          (.exit 1))
                        (.seq (.block 2
                          (.seq (.ops [⟨(some 106), .pure (.iaddrS 13), [.t 102, .t 104], none⟩,
                            ⟨(some 107), .read (.load (some 13)), [.t 106], none⟩,
                            ⟨(some 6), .new (.new 13 [.agg [.int .i64 0, .bool false, .bool false, .str [], .int .i64 0, .int .i64 0, .int .i64 0, .int .i64 0, .int .i64 0, .str [], .snil 1, .snil 13, .snil 14]]), [], none⟩,
                            ⟨none, .eff (.store 13), [.t 6, .t 107], none⟩])
                          (.seq (.ops [⟨(some 108), .pure (.faddr 0), [.t 6], none⟩,
                            ⟨(some 109), .read (.load none), [.t 108], none⟩,
                            ⟨(some 110), .pure (.bin .geq), [.t 109, .c (.int .i64 6)], none⟩,
                            ⟨(some 111), .pure .move, [.t 110], none⟩,
                            ⟨(some 112), .read (.load (some 13)), [.t 6], some (111, false)⟩,
                            ⟨(some 113), .pcall 126, [.t 112], some (111, false)⟩,
                            ⟨(some 114), .pure (.bin .neq), [.t 113, .c (.int .i64 0)], some (111, false)⟩,
                            ⟨(some 115), .pure .pick, [.t 111, .c (.bool true), .t 114], none⟩])
                          (.cond (.t 115)
                            (.seq (.ops [⟨(some 2), .pure .move, [.c (.bool false)], none⟩])
                            .ret)
                            .skip))))
                        (.ops [⟨(some 116), .pure (.bin .add), [.t 104, .c (.int .i64 1)], none⟩,
                          ⟨(some 104), .pure .move, [.t 116], none⟩])))))))))
                    (.seq (.ops [⟨(some 118), .pure (.bin .eql), [.t 12, .c (.int .i64 10)], none⟩,
                      ⟨(some 117), .pure .move, [.t 118], none⟩])
                    (.cond (.t 117)
                      (.seq (.ops [⟨(some 119), .pure (.faddr 13), [.t 3], none⟩,
                        ⟨none, .eff (.store 1), [.t 119, .c (.snil 17)], none⟩,
                        ⟨(some 120), .pure (.faddr 14), [.t 3], none⟩,
                        ⟨none, .eff (.store 1), [.t 120, .c (.snil 15)], none⟩])
                      (.seq (.seq (.ops [⟨(some 121), .pure (.faddr 13), [.t 1], none⟩,
                        ⟨(some 122), .read (.load none), [.t 121], none⟩,
                        ⟨(some 123), .pure .lenL, [.t 122], none⟩,
                        ⟨(some 124), .pure .move, [.c (.int .i64 0)], none⟩])
                      (.block 3
                        (.loop [1, 3, 122, 123, 124]
                          (.seq (.ops [⟨(some 125), .pure (.bin .lss), [.t 124, .t 123], none⟩])
                          (.seq (.cond (.t 125)
                            .skip
                            (.exit 3))
                          (.seq (.block 4
                            (.seq (.ops [⟨(some 126), .pure (.iaddrS 17), [.t 122, .t 124], none⟩,
                              ⟨(some 127), .read (.load (some 17)), [.t 126], none⟩,
                              ⟨(some 8), .new (.new 17 [.agg [.str [], .bool false, .int .i64 0, .int .i64 0, .int .i64 0, .int .i64 0, .str [], .snil 11, .int .i64 0, .int .i64 0, .int .i64 0, .int .i64 0, .int .i64 0, .snil 6, .snil 13, .snil 17, .snil 15]]), [], none⟩,
                              ⟨none, .eff (.store 17), [.t 8, .t 127], none⟩])
                            (.seq (.ops [⟨(some 128), .pure (.faddr 0), [.t 8], none⟩,
                              ⟨(some 129), .read (.load none), [.t 128], none⟩,
                              ⟨(some 130), .pcall 46, [.t 129], none⟩,
                              ⟨(some 131), .pure (.un .not), [.t 130], none⟩,
                              ⟨(some 132), .pure .move, [.t 131], none⟩,
                              ⟨(some 133), .pure (.faddr 0), [.t 8], some (132, false)⟩,
                              ⟨(some 134), .read (.load none), [.t 133], some (132, false)⟩,
                              ⟨(some 135), .pure .lenS, [.t 134], some (132, false)⟩,
                              ⟨(some 136), .pure (.bin .gtr), [.t 135, .c (.int .i64 1024)], some (132, false)⟩,
                              ⟨(some 137), .pure .pick, [.t 132, .c (.bool true), .t 136], none⟩])
                            (.cond (.t 137)
                              (.seq (.ops [⟨(some 2), .pure .move, [.c (.bool false)], none⟩])
                              .ret)
                              .skip))))
                          (.ops [⟨(some 138), .pure (.bin .add), [.t 124, .c (.int .i64 1)], none⟩,
                            ⟨(some 124), .pure .move, [.t 138], none⟩])))))))
                      (.seq (.ops [⟨(some 139), .pure (.faddr 14), [.t 1], none⟩,
                        ⟨(some 140), .read (.load none), [.t 139], none⟩,
                        ⟨(some 141), .pure .lenL, [.t 140], none⟩,
                        ⟨(some 142), .pure (.bin .neq), [.t 141, .c (.int .i64 1)], none⟩])
                      (.cond (.t 142)
                        (.seq (.ops [⟨(some 2), .pure .move, [.c (.bool false)], none⟩])
                        .ret)
                        .skip))))
                      (.seq (.seq (.ops [⟨(some 144), .pure (.bin .eql), [.t 12, .c (.int .i64 11)], none⟩,
                        ⟨(some 143), .pure .move, [.t 144], none⟩])
                      (.cond (.t 143)
                        .skip
                        (.seq (.ops [⟨(some 145), .pure (.bin .eql), [.t 12, .c (.int .i64 12)], none⟩,
                          ⟨(some 143), .pure .move, [.t 145], none⟩])
                        (.cond (.t 143)
                          .skip
                          (.ops [⟨(some 146), .pure (.bin .eql), [.t 12, .c (.int .i64 13)], none⟩,
                            ⟨(some 143), .pure .move, [.t 146], none⟩])))))
                      (.cond (.t 143)
                        (.seq (.ops [⟨(some 147), .pure (.faddr 14), [.t 3], none⟩,
                          ⟨none, .eff (.store 1), [.t 147, .c (.snil 15)], none⟩])
                        (.seq (.ops [⟨(some 148), .pure (.faddr 14), [.t 1], none⟩,
                          ⟨(some 149), .read (.load none), [.t 148], none⟩,
                          ⟨(some 150), .pure .lenL, [.t 149], none⟩,
                          ⟨(some 151), .pure (.bin .eql), [.t 150, .c (.int .i64 0)], none⟩,
                          ⟨(some 152), .pure .move, [.t 151], none⟩,
                          ⟨(some 153), .pure (.faddr 0), [.t 1], some (152, false)⟩,
                          ⟨(some 154), .read (.load none), [.t 153], some (152, false)⟩,
                          ⟨(some 155), .pure (.bin .eql), [.t 154, .c (.int .i64 13)], some (152, false)⟩,
                          ⟨(some 156), .pure .move, [.t 155], some (152, false)⟩,
                          ⟨(some 157), .pure (.faddr 14), [.t 1], some (156, true)⟩,
                          ⟨(some 158), .read (.load none), [.t 157], some (156, true)⟩,
                          ⟨(some 159), .pure .lenL, [.t 158], some (156, true)⟩,
                          ⟨(some 160), .pure (.bin .neq), [.t 159, .c (.int .i64 1)], some (156, true)⟩,
                          ⟨(some 161), .pure .pick, [.t 156, .t 160, .c (.bool false)], some (152, false)⟩,
                          ⟨(some 162), .pure .pick, [.t 152, .c (.bool true), .t 161], none⟩])
                        (.cond (.t 162)
                          (.seq (.ops [⟨(some 2), .pure .move, [.c (.bool false)], none⟩])
                          .ret)
                          .skip)))
                        (.seq (.ops [⟨(some 2), .pure .move, [.c (.bool false)], none⟩])
                        .ret)))))))))))))))))))))
    (.seq (.ops [⟨(some 163), .read (.load (some 15)), [.t 3], none⟩,
      ⟨(some 164), .pcall 597, [.t 163], none⟩,
      ⟨(some 2), .pure .move, [.t 164], none⟩])
    .ret))))) }
/-- datakit/formats.Known -/
def ac563 : AFn :=
  { nt := 6, res := [.tmp 2], body :=
    (.seq (.ops [⟨(some 2), .pure .move, [.c (.bool false)], none⟩])
    (.seq (.ops [⟨(some 3), .pure .move, [.t 0], none⟩,
      ⟨(some 4), .pcall 598, [.t 3], none⟩,
      ⟨(some 5), .pure (.bin .lss), [.t 4, .c (.int .i64 12)], none⟩,
      ⟨(some 2), .pure .move, [.t 5], none⟩])
    .ret)) }
/-- datakit/regex.Text -/
def ac574 : AFn :=
  { nt := 10, res := [.tmp 2], body :=
    (.seq (.ops [⟨(some 1), .new (.box 6), [.t 0], none⟩,
      ⟨(some 2), .pure .move, [.c (.str [])], none⟩])
    (.seq (.seq (.ops [⟨(some 4), .read (.load (some 6)), [.t 1], none⟩,
      ⟨(some 5), .pcall 358, [.t 4], none⟩,
      ⟨(some 6), .pure (.un .not), [.t 5], none⟩])
    (.cond (.t 6)
      (.seq (.ops [⟨(some 2), .pure .move, [.c (.str [])], none⟩])
      .ret)
      .skip))
    (.seq (.ops [⟨(some 3), .new (.new 2 [.agg [.nilp, .snil 1]]), [], none⟩])
    (.seq (.ops [⟨(some 7), .read (.load (some 6)), [.t 1], none⟩,
      ⟨(some 8), .pcall 607, [.t 3, .t 7], none⟩])
    (.seq (.ops [⟨(some 9), .call 300, [.t 3], none⟩,
      ⟨(some 2), .pure .move, [.t 9], none⟩])
    .ret))))) }
/-- datakit/regex.Parse$1 -/
def ac575 : AFn :=
  { nt := 7, res := [], body :=
    (.seq (.ops [⟨(some 3), .bad, [], none⟩,
      ⟨(some 2), .pure .move, [.t 3], none⟩])
    (.seq (.ops [⟨(some 4), .pure .move, [.t 2], none⟩,
      ⟨(some 5), .pure (.eqN 3 true), [.t 4, .c (.nili)], none⟩])
    (.cond (.t 5)
      (.ops [⟨(some 6), .pure (.build [.int .i64 0, .int .i64 0, .int .i64 0, .int .i64 0, .int .i64 0, .snil 6] []), [], none⟩,
        ⟨none, .eff (.store 6), [.t 0, .t 6], none⟩,
        ⟨none, .eff (.store 1), [.t 1, .c (.int .i64 3)], none⟩])
      .skip))) }
/-- (*datakit/regex.parser).infix -/
def ac576 : AFn :=
  { nt := 42, res := [.cell 4 (some 6)], body :=
    (.seq (.ops [⟨(some 4), .new (.new 6 [.agg [.int .i64 0, .int .i64 0, .int .i64 0, .int .i64 0, .int .i64 0, .snil 6]]), [], none⟩])
    (.seq (.seq (.ops [⟨(some 7), .pure .move, [.t 1], none⟩,
      ⟨(some 8), .pure (.bin .gtr), [.t 7, .c (.int .i64 3)], none⟩])
    (.cond (.t 8)
      (.seq (.ops [⟨(some 9), .pure .move, [.t 0], none⟩,
        ⟨(some 10), .call 608, [.t 9], none⟩,
        ⟨none, .eff (.store 6), [.t 4, .t 10], none⟩])
      .ret)
      .skip))
    (.seq (.ops [⟨(some 11), .pure (.build [.int .i64 0, .int .i64 0, .int .i64 0, .int .i64 0] [(0, 1), (1, 1), (2, 1), (3, 1)]), [.c (.int .i64 0), .c (.int .i64 4), .c (.int .i64 6), .c (.int .i64 3)], none⟩,
      ⟨(some 5), .new (.new 1 [.int .i64 0, .int .i64 0, .int .i64 0, .int .i64 0]), [], none⟩,
      ⟨none, .eff (.store 4), [.t 5, .t 11], none⟩])
    (.seq (.draw 2 [[⟨(some 12), .pure .move, [.t 1], none⟩,
      ⟨(some 13), .pure (.iaddrA 4 1), [.t 5, .t 12], none⟩,
      ⟨(some 15), .pure .move, [.t 0], none⟩,
      ⟨(some 16), .pure .move, [.t 1], none⟩,
      ⟨(some 17), .pure (.bin .add), [.t 16, .c (.int .i64 1)], none⟩,
      ⟨(some 14), .read (.load none), [.t 13], none⟩,
      ⟨(some 18), .call 576, [.t 15, .t 17], none⟩,
      ⟨(some 19), .newAt 0 (.buildSlice 6 [.agg [.int .i64 0, .int .i64 0, .int .i64 0, .int .i64 0, .int .i64 0, .snil 6]] [0]), [.t 18], none⟩,
      ⟨(some 20), .pure (.build [.int .i64 0, .int .i64 0, .int .i64 0, .int .i64 0, .int .i64 0, .snil 6] [(0, 1), (5, 1)]), [.t 14, .t 19], none⟩,
      ⟨(some 6), .newAt 1 (.new 6 [.agg [.int .i64 0, .int .i64 0, .int .i64 0, .int .i64 0, .int .i64 0, .snil 6]]), [], none⟩,
      ⟨none, .eff (.store 6), [.t 6, .t 20], none⟩],
      [⟨(some 12), .pure .move, [.t 1], none⟩,
      ⟨(some 13), .pure (.iaddrA 4 1), [.t 5, .t 12], none⟩,
      ⟨(some 15), .pure .move, [.t 0], none⟩,
      ⟨(some 16), .pure .move, [.t 1], none⟩,
      ⟨(some 17), .pure (.bin .add), [.t 16, .c (.int .i64 1)], none⟩,
      ⟨(some 14), .read (.load none), [.t 13], none⟩,
      ⟨(some 6), .newAt 1 (.new 6 [.agg [.int .i64 0, .int .i64 0, .int .i64 0, .int .i64 0, .int .i64 0, .snil 6]]), [], none⟩,
      ⟨(some 18), .call 576, [.t 15, .t 17], none⟩,
      ⟨(some 19), .newAt 0 (.buildSlice 6 [.agg [.int .i64 0, .int .i64 0, .int .i64 0, .int .i64 0, .int .i64 0, .snil 6]] [0]), [.t 18], none⟩,
      ⟨(some 20), .pure (.build [.int .i64 0, .int .i64 0, .int .i64 0, .int .i64 0, .int .i64 0, .snil 6] [(0, 1), (5, 1)]), [.t 14, .t 19], none⟩,
      ⟨none, .eff (.store 6), [.t 6, .t 20], none⟩],
      [⟨(some 12), .pure .move, [.t 1], none⟩,
      ⟨(some 13), .pure (.iaddrA 4 1), [.t 5, .t 12], none⟩,
      ⟨(some 15), .pure .move, [.t 0], none⟩,
      ⟨(some 16), .pure .move, [.t 1], none⟩,
      ⟨(some 17), .pure (.bin .add), [.t 16, .c (.int .i64 1)], none⟩,
      ⟨(some 18), .call 576, [.t 15, .t 17], none⟩,
      ⟨(some 14), .read (.load none), [.t 13], none⟩,
      ⟨(some 19), .newAt 0 (.buildSlice 6 [.agg [.int .i64 0, .int .i64 0, .int .i64 0, .int .i64 0, .int .i64 0, .snil 6]] [0]), [.t 18], none⟩,
      ⟨(some 20), .pure (.build [.int .i64 0, .int .i64 0, .int .i64 0, .int .i64 0, .int .i64 0, .snil 6] [(0, 1), (5, 1)]), [.t 14, .t 19], none⟩,
      ⟨(some 6), .newAt 1 (.new 6 [.agg [.int .i64 0, .int .i64 0, .int .i64 0, .int .i64 0, .int .i64 0, .snil 6]]), [], none⟩,
      ⟨none, .eff (.store 6), [.t 6, .t 20], none⟩],
      [⟨(some 12), .pure .move, [.t 1], none⟩,
      ⟨(some 13), .pure (.iaddrA 4 1), [.t 5, .t 12], none⟩,
      ⟨(some 15), .pure .move, [.t 0], none⟩,
      ⟨(some 16), .pure .move, [.t 1], none⟩,
      ⟨(some 17), .pure (.bin .add), [.t 16, .c (.int .i64 1)], none⟩,
      ⟨(some 6), .newAt 1 (.new 6 [.agg [.int .i64 0, .int .i64 0, .int .i64 0, .int .i64 0, .int .i64 0, .snil 6]]), [], none⟩,
      ⟨(some 14), .read (.load none), [.t 13], none⟩,
      ⟨(some 18), .call 576, [.t 15, .t 17], none⟩,
      ⟨(some 19), .newAt 0 (.buildSlice 6 [.agg [.int .i64 0, .int .i64 0, .int .i64 0, .int .i64 0, .int .i64 0, .snil 6]] [0]), [.t 18], none⟩,
      ⟨(some 20), .pure (.build [.int .i64 0, .int .i64 0, .int .i64 0, .int .i64 0, .int .i64 0, .snil 6] [(0, 1), (5, 1)]), [.t 14, .t 19], none⟩,
      ⟨none, .eff (.store 6), [.t 6, .t 20], none⟩],
      [⟨(some 12), .pure .move, [.t 1], none⟩,
      ⟨(some 13), .pure (.iaddrA 4 1), [.t 5, .t 12], none⟩,
      ⟨(some 15), .pure .move, [.t 0], none⟩,
      ⟨(some 16), .pure .move, [.t 1], none⟩,
      ⟨(some 17), .pure (.bin .add), [.t 16, .c (.int .i64 1)], none⟩,
      ⟨(some 6), .newAt 1 (.new 6 [.agg [.int .i64 0, .int .i64 0, .int .i64 0, .int .i64 0, .int .i64 0, .snil 6]]), [], none⟩,
      ⟨(some 18), .call 576, [.t 15, .t 17], none⟩,
      ⟨(some 14), .read (.load none), [.t 13], none⟩,
      ⟨(some 19), .newAt 0 (.buildSlice 6 [.agg [.int .i64 0, .int .i64 0, .int .i64 0, .int .i64 0, .int .i64 0, .snil 6]] [0]), [.t 18], none⟩,
      ⟨(some 20), .pure (.build [.int .i64 0, .int .i64 0, .int .i64 0, .int .i64 0, .int .i64 0, .snil 6] [(0, 1), (5, 1)]), [.t 14, .t 19], none⟩,
      ⟨none, .eff (.store 6), [.t 6, .t 20], none⟩]])
    (.seq (.block 0
      (.loop [0, 1, 4, 6]
        (.seq (.seq (.ops [⟨(some 21), .pure .move, [.t 0], none⟩,
          ⟨(some 22), .pure .move, [.t 1], none⟩,
          ⟨(some 23), .call 609, [.t 21, .t 22], none⟩])
        (.cond (.t 23)
          .skip
          (.exit 0)))
        (.block 1
          (.draw 1 [[⟨(some 24), .pure (.faddr 5), [.t 6], none⟩,
            ⟨(some 26), .pure .move, [.t 0], none⟩,
            ⟨(some 27), .pure .move, [.t 1], none⟩,
            ⟨(some 28), .pure (.bin .add), [.t 27, .c (.int .i64 1)], none⟩,
            ⟨(some 25), .read (.load none), [.t 24], none⟩,
            ⟨(some 29), .call 576, [.t 26, .t 28], none⟩,
            ⟨(some 30), .newAt 0 (.buildSlice 6 [.agg [.int .i64 0, .int .i64 0, .int .i64 0, .int .i64 0, .int .i64 0, .snil 6]] [0]), [.t 29], none⟩,
            ⟨(some 31), .eff (.append 6 64), [.t 25, .t 30], none⟩,
            ⟨(some 32), .pure (.faddr 5), [.t 6], none⟩,
            ⟨none, .eff (.store 1), [.t 32, .t 31], none⟩],
            [⟨(some 24), .pure (.faddr 5), [.t 6], none⟩,
            ⟨(some 26), .pure .move, [.t 0], none⟩,
            ⟨(some 27), .pure .move, [.t 1], none⟩,
            ⟨(some 28), .pure (.bin .add), [.t 27, .c (.int .i64 1)], none⟩,
            ⟨(some 29), .call 576, [.t 26, .t 28], none⟩,
            ⟨(some 25), .read (.load none), [.t 24], none⟩,
            ⟨(some 30), .newAt 0 (.buildSlice 6 [.agg [.int .i64 0, .int .i64 0, .int .i64 0, .int .i64 0, .int .i64 0, .snil 6]] [0]), [.t 29], none⟩,
            ⟨(some 31), .eff (.append 6 64), [.t 25, .t 30], none⟩,
            ⟨(some 32), .pure (.faddr 5), [.t 6], none⟩,
            ⟨none, .eff (.store 1), [.t 32, .t 31], none⟩]])))))
    (.seq (.seq (.ops [⟨(some 33), .pure (.faddr 5), [.t 6], none⟩,
      ⟨(some 34), .read (.load none), [.t 33], none⟩,
      ⟨(some 35), .pure .lenL, [.t 34], none⟩,
      ⟨(some 36), .pure (.bin .eql), [.t 35, .c (.int .i64 1)], none⟩])
    (.cond (.t 36)
      (.seq (.ops [⟨(some 37), .pure (.faddr 5), [.t 6], none⟩,
        ⟨(some 38), .read (.load none), [.t 37], none⟩,
        ⟨(some 39), .pure (.iaddrS 6), [.t 38, .c (.int .i64 0)], none⟩,
        ⟨(some 40), .read (.load (some 6)), [.t 39], none⟩,
        ⟨none, .eff (.store 6), [.t 4, .t 40], none⟩])
      .ret)
      .skip))
    (.seq (.ops [⟨(some 41), .read (.load (some 6)), [.t 6], none⟩,
      ⟨none, .eff (.store 6), [.t 4, .t 41], none⟩])
    .ret))))))) }
/-- datakit/datakitref01.FromInt -/
def ac579 : AFn :=
  { nt := 17, res := [.tmp 2], body :=
    (.seq (.ops [⟨(some 2), .pure .move, [.c (.str [])], none⟩])
    (.seq (.ops [⟨(some 3), .pure .move, [.c (.str [])], none⟩])
    (.seq (.block 0
      (.loop [0, 3]
        (.seq (.seq (.ops [⟨(some 4), .pure .move, [.t 0], none⟩,
          ⟨(some 5), .pure (.bin .gtr), [.t 4, .c (.int .i64 0)], none⟩])
        (.cond (.t 5)
          .skip
          (.exit 0)))
        (.block 1
          (.seq (.ops [⟨(some 6), .pure .move, [.t 0], none⟩,
            ⟨(some 7), .pure (.bin .rem), [.t 6, .c (.int .i64 10)], none⟩,
            ⟨(some 8), .pure (.bin .add), [.c (.int .i64 48), .t 7], none⟩,
            ⟨(some 9), .pure (.conv .u8), [.t 8], none⟩,
            ⟨(some 10), .new (.buildSlice 1 [.int .u8 0] [0]), [.t 9], none⟩,
            ⟨(some 11), .read .bytesStr, [.t 10], none⟩,
            ⟨(some 12), .pure .move, [.t 3], none⟩,
            ⟨(some 13), .pure (.bin .add), [.t 11, .t 12], none⟩,
            ⟨(some 3), .pure .move, [.t 13], none⟩])
          (.ops [⟨(some 14), .pure .move, [.t 0], none⟩,
            ⟨(some 15), .pure (.bin .quo), [.t 14, .c (.int .i64 10)], none⟩,
            ⟨(some 0), .pure .move, [.t 15], none⟩]))))))
    (.seq (.ops [⟨(some 16), .pure .move, [.t 3], none⟩,
      ⟨(some 2), .pure .move, [.t 16], none⟩])
    .ret)))) }
/-- datakit/datakitref01.Sum -/
def ac580 : AFn :=
  { nt := 44, res := [.tmp 4], body :=
    (.seq (.ops [⟨(some 4), .pure .move, [.c (.str [])], none⟩])
    (.seq (.ops [⟨(some 10), .pure .move, [.t 0], none⟩,
      ⟨(some 11), .pure .lenS, [.t 10], none⟩,
      ⟨(some 5), .pure .move, [.t 11], none⟩])
    (.seq (.seq (.ops [⟨(some 12), .pure .move, [.t 1], none⟩,
      ⟨(some 13), .pure .lenS, [.t 12], none⟩,
      ⟨(some 14), .pure .move, [.t 5], none⟩,
      ⟨(some 15), .pure (.bin .gtr), [.t 13, .t 14], none⟩])
    (.cond (.t 15)
      (.ops [⟨(some 16), .pure .move, [.t 1], none⟩,
        ⟨(some 17), .pure .lenS, [.t 16], none⟩,
        ⟨(some 5), .pure .move, [.t 17], none⟩])
      .skip))
    (.seq (.ops [⟨(some 18), .pure .move, [.t 5], none⟩,
      ⟨(some 19), .pure (.bin .add), [.t 18, .c (.int .i64 1)], none⟩,
      ⟨(some 20), .new (.mkSlice 1 8 (.int .i64 0)), [.t 19, .t 19], none⟩,
      ⟨(some 6), .pure .move, [.t 20], none⟩])
    (.seq (.ops [⟨(some 7), .pure .move, [.c (.int .i64 0)], none⟩])
    (.seq (.seq (.ops [⟨(some 8), .pure .move, [.c (.int .i64 0)], none⟩])
    (.block 0
      (.loop [0, 1, 5, 6, 7, 8]
        (.seq (.seq (.ops [⟨(some 21), .pure .move, [.t 8], none⟩,
          ⟨(some 22), .pure .move, [.t 5], none⟩,
          ⟨(some 23), .pure (.bin .leq), [.t 21, .t 22], none⟩])
        (.cond (.t 23)
          .skip
          (.exit 0)))
        (.seq (.block 1
          (.seq (.ops [⟨(some 26), .pure .move, [.t 0], none⟩,
            ⟨(some 27), .pure .move, [.t 8], none⟩,
            ⟨(some 28), .pcall 610, [.t 26, .t 27], none⟩,
            ⟨(some 29), .pure .move, [.t 1], none⟩,
            ⟨(some 30), .pure .move, [.t 8], none⟩,
            ⟨(some 31), .pcall 610, [.t 29, .t 30], none⟩,
            ⟨(some 32), .pure (.bin .add), [.t 28, .t 31], none⟩,
            ⟨(some 33), .pure .move, [.t 7], none⟩,
            ⟨(some 34), .pure (.bin .add), [.t 32, .t 33], none⟩,
            ⟨(some 9), .pure .move, [.t 34], none⟩])
          (.seq (.ops [⟨(some 35), .pure .move, [.t 6], none⟩,
            ⟨(some 36), .pure .move, [.t 8], none⟩,
            ⟨(some 37), .pure .move, [.t 9], none⟩,
            ⟨(some 38), .pure (.bin .rem), [.t 37, .c (.int .i64 10)], none⟩,
            ⟨(some 39), .pure (.iaddrS 1), [.t 35, .t 36], none⟩,
            ⟨none, .eff (.store 1), [.t 39, .t 38], none⟩])
          (.ops [⟨(some 40), .pure .move, [.t 9], none⟩,
            ⟨(some 41), .pure (.bin .quo), [.t 40, .c (.int .i64 10)], none⟩,
            ⟨(some 7), .pure .move, [.t 41], none⟩]))))
        (.ops [⟨(some 24), .pure .move, [.t 8], none⟩,
          ⟨(some 25), .pure (.bin .add), [.t 24, .c (.int .i64 1)], none⟩,
          ⟨(some 8), .pure .move, [.t 25], none⟩]))))))
    (.seq (.ops [⟨(some 42), .pure .move, [.t 6], none⟩,
      ⟨(some 43), .pcall 611, [.t 42], none⟩,
      ⟨(some 4), .pure .move, [.t 43], none⟩])
    .ret))))))) }
/-- datakit/datakitref02.normal -/
def ac581 : AFn :=
  { nt := 48, res := [.cell 6 (some 3), .tmp 7], body :=
    (.seq (.ops [⟨(some 6), .new (.new 3 [.agg [.bool false, .str [], .int .i64 0]]), [], none⟩,
      ⟨(some 7), .pure .move, [.c (.int .i64 0)], none⟩])
    (.seq (.ops [⟨(some 9), .pure .move, [.t 1], none⟩,
      ⟨(some 10), .pcall 612, [.t 9], none⟩,
      ⟨(some 1), .pure .move, [.t 10], none⟩])
    (.seq (.seq (.ops [⟨(some 11), .pure .move, [.t 1], none⟩,
      ⟨(some 12), .pure (.bin .eql), [.t 11, .c (.str [])], none⟩])
    (.cond (.t 12)
      (.seq (.ops [⟨(some 13), .pure (.build [.bool false, .str [], .int .i64 0] []), [], none⟩,
        ⟨none, .eff (.store 3), [.t 6, .t 13], none⟩,
        ⟨(some 7), .pure .move, [.c (.int .i64 0)], none⟩])
      .ret)
      .skip))
    (.seq (.ops [⟨(some 14), .pure .move, [.t 1], none⟩,
      ⟨(some 15), .pcall 90, [.t 14], none⟩,
      ⟨(some 8), .pure .move, [.t 15], none⟩])
    (.seq (.ops [⟨(some 16), .pure .move, [.t 1], none⟩,
      ⟨(some 17), .pure .move, [.t 1], none⟩,
      ⟨(some 18), .pure .lenS, [.t 17], none⟩,
      ⟨(some 19), .pure .move, [.t 8], none⟩,
      ⟨(some 20), .pure (.bin .sub), [.t 18, .t 19], none⟩,
      ⟨(some 21), .pure (.sliceS false true), [.t 16, .t 20], none⟩,
      ⟨(some 1), .pure .move, [.t 21], none⟩])
    (.seq (.seq (.ops [⟨(some 22), .pure .move, [.t 1], none⟩,
      ⟨(some 23), .pure .lenS, [.t 22], none⟩,
      ⟨(some 24), .pure (.bin .gtr), [.t 23, .c (.int .i64 120)], none⟩,
      ⟨(some 25), .pure .move, [.t 24], none⟩,
      ⟨(some 26), .pure .move, [.t 2], some (25, false)⟩,
      ⟨(some 27), .pure (.bin .gtr), [.t 26, .c (.int .i64 400)], some (25, false)⟩,
      ⟨(some 28), .pure .pick, [.t 25, .c (.bool true), .t 27], none⟩,
      ⟨(some 29), .pure .move, [.t 28], none⟩,
      ⟨(some 30), .pure .move, [.t 2], some (29, false)⟩,
      ⟨(some 31), .pure .move, [.t 8], some (29, false)⟩,
      ⟨(some 32), .pure (.bin .add), [.t 30, .t 31], some (29, false)⟩,
      ⟨(some 33), .pure (.bin .gtr), [.t 32, .c (.int .i64 400)], some (29, false)⟩,
      ⟨(some 34), .pure .pick, [.t 29, .c (.bool true), .t 33], none⟩,
      ⟨(some 35), .pure .move, [.t 34], none⟩,
      ⟨(some 36), .pure .move, [.t 2], some (35, false)⟩,
      ⟨(some 37), .pure .move, [.t 8], some (35, false)⟩,
      ⟨(some 38), .pure (.bin .add), [.t 36, .t 37], some (35, false)⟩,
      ⟨(some 39), .pure (.bin .lss), [.t 38, .c (.int .i64 (-400))], some (35, false)⟩,
      ⟨(some 40), .pure .pick, [.t 35, .c (.bool true), .t 39], none⟩])
    (.cond (.t 40)
      (.seq (.ops [⟨(some 41), .pure (.build [.bool false, .str [], .int .i64 0] []), [], none⟩,
        ⟨none, .eff (.store 3), [.t 6, .t 41], none⟩,
        ⟨(some 7), .pure .move, [.c (.int .i64 2)], none⟩])
      .ret)
      .skip))
    (.seq (.ops [⟨(some 42), .pure .move, [.t 0], none⟩,
      ⟨(some 43), .pure .move, [.t 1], none⟩,
      ⟨(some 44), .pure .move, [.t 2], none⟩,
      ⟨(some 45), .pure .move, [.t 8], none⟩,
      ⟨(some 46), .pure (.bin .add), [.t 44, .t 45], none⟩,
      ⟨(some 47), .pure (.build [.bool false, .str [], .int .i64 0] [(0, 1), (1, 1), (2, 1)]), [.t 42, .t 43, .t 46], none⟩,
      ⟨none, .eff (.store 3), [.t 6, .t 47], none⟩,
      ⟨(some 7), .pure .move, [.c (.int .i64 0)], none⟩])
    .ret))))))) }
/-- datakit/regex.ends -/
def ac582 : AFn :=
  { nt := 119, res := [.tmp 6], body :=
    (.seq (.ops [⟨(some 3), .new (.box 6), [.t 0], none⟩,
      ⟨(some 6), .pure .move, [.c (.snil 1)], none⟩])
    (.seq (.seq (.ops [⟨(some 16), .pure .move, [.t 2], none⟩,
      ⟨(some 17), .pure .lenL, [.t 16], none⟩,
      ⟨(some 18), .pure (.bin .eql), [.t 17, .c (.int .i64 0)], none⟩])
    (.cond (.t 18)
      (.seq (.ops [⟨(some 6), .pure .move, [.c (.snil 1)], none⟩])
      .ret)
      .skip))
    (.seq (.ops [⟨(some 19), .pure .move, [.t 1], none⟩,
      ⟨(some 20), .pcall 613, [.t 19], none⟩,
      ⟨(some 7), .pure .move, [.t 20], none⟩])
    (.seq (.seq (.ops [⟨(some 21), .pure (.faddr 0), [.t 3], none⟩,
      ⟨(some 22), .read (.load none), [.t 21], none⟩])
    (.block 0
      (.seq (.ops [⟨(some 24), .pure (.bin .eql), [.t 22, .c (.int .i64 1)], none⟩,
        ⟨(some 23), .pure .move, [.t 24], none⟩])
      (.cond (.t 23)
        (.seq (.ops [⟨(some 25), .pure .move, [.t 2], none⟩,
          ⟨(some 6), .pure .move, [.t 25], none⟩])
        .ret)
        (.seq (.ops [⟨(some 27), .pure (.bin .eql), [.t 22, .c (.int .i64 2)], none⟩,
          ⟨(some 26), .pure .move, [.t 27], none⟩])
        (.cond (.t 26)
          (.seq (.ops [⟨(some 28), .pure .move, [.t 2], none⟩,
            ⟨(some 29), .pure .lenL, [.t 28], none⟩,
            ⟨(some 30), .pure .move, [.c (.int .i64 0)], none⟩])
          (.block 1
            (.loop [1, 3, 7, 28, 29, 30]
              (.seq (.ops [⟨(some 31), .pure (.bin .lss), [.t 30, .t 29], none⟩])
              (.seq (.cond (.t 31)
                .skip
                (.exit 1))
              (.seq (.block 2
                (.seq (.ops [⟨(some 32), .pure (.iaddrS 1), [.t 28, .t 30], none⟩,
                  ⟨(some 33), .read (.load none), [.t 32], none⟩,
                  ⟨(some 9), .pure .move, [.t 33], none⟩])
                (.seq (.ops [⟨(some 34), .pure .move, [.t 9], none⟩,
                  ⟨(some 35), .pure .move, [.t 1], none⟩,
                  ⟨(some 36), .pure .lenS, [.t 35], none⟩,
                  ⟨(some 37), .pure (.bin .lss), [.t 34, .t 36], none⟩,
                  ⟨(some 38), .pure .move, [.t 37], none⟩,
                  ⟨(some 39), .pure .move, [.t 1], some (38, true)⟩,
                  ⟨(some 40), .pure .move, [.t 9], some (38, true)⟩,
                  ⟨(some 41), .pure .idxStr, [.t 39, .t 40], some (38, true)⟩,
                  ⟨(some 42), .pure (.conv .i64), [.t 41], some (38, true)⟩,
                  ⟨(some 43), .pure (.faddr 1), [.t 3], some (38, true)⟩,
                  ⟨(some 44), .read (.load none), [.t 43], some (38, true)⟩,
                  ⟨(some 45), .pure (.bin .geq), [.t 42, .t 44], some (38, true)⟩,
                  ⟨(some 46), .pure .pick, [.t 38, .t 45, .c (.bool false)], none⟩,
                  ⟨(some 47), .pure .move, [.t 46], none⟩,
                  ⟨(some 48), .pure .move, [.t 1], some (47, true)⟩,
                  ⟨(some 49), .pure .move, [.t 9], some (47, true)⟩,
                  ⟨(some 50), .pure .idxStr, [.t 48, .t 49], some (47, true)⟩,
                  ⟨(some 51), .pure (.conv .i64), [.t 50], some (47, true)⟩,
                  ⟨(some 52), .pure (.faddr 2), [.t 3], some (47, true)⟩,
                  ⟨(some 53), .read (.load none), [.t 52], some (47, true)⟩,
                  ⟨(some 54), .pure (.bin .leq), [.t 51, .t 53], some (47, true)⟩,
                  ⟨(some 55), .pure .pick, [.t 47, .t 54, .c (.bool false)], none⟩])
                (.cond (.t 55)
                  (.ops [⟨(some 56), .pure .move, [.t 7], none⟩,
                    ⟨(some 57), .pure .move, [.t 9], none⟩,
                    ⟨(some 58), .pure (.bin .add), [.t 57, .c (.int .i64 1)], none⟩,
                    ⟨(some 59), .new (.buildSlice 1 [.int .i64 0] [0]), [.t 58], none⟩,
                    ⟨(some 60), .call 614, [.t 56, .t 59], none⟩])
                  .skip))))
              (.ops [⟨(some 61), .pure (.bin .add), [.t 30, .c (.int .i64 1)], none⟩,
                ⟨(some 30), .pure .move, [.t 61], none⟩])))))))
          (.seq (.ops [⟨(some 63), .pure (.bin .eql), [.t 22, .c (.int .i64 3)], none⟩,
            ⟨(some 62), .pure .move, [.t 63], none⟩])
          (.cond (.t 62)
            (.seq (.seq (.ops [⟨(some 64), .pure (.faddr 5), [.t 3], none⟩,
              ⟨(some 65), .read (.load none), [.t 64], none⟩,
              ⟨(some 66), .pure .lenL, [.t 65], none⟩,
              ⟨(some 67), .pure .move, [.c (.int .i64 0)], none⟩])
            (.block 3
              (.loop [1, 2, 65, 66, 67]
                (.seq (.ops [⟨(some 68), .pure (.bin .lss), [.t 67, .t 66], none⟩])
                (.seq (.cond (.t 68)
                  .skip
                  (.exit 3))
                (.seq (.block 4
                  (.seq (.ops [⟨(some 69), .pure (.iaddrS 6), [.t 65, .t 67], none⟩,
                    ⟨(some 70), .read (.load (some 6)), [.t 69], none⟩,
                    ⟨(some 11), .new (.new 6 [.agg [.int .i64 0, .int .i64 0, .int .i64 0, .int .i64 0, .int .i64 0, .snil 6]]), [], none⟩,
                    ⟨none, .eff (.store 6), [.t 11, .t 70], none⟩])
                  (.ops [⟨(some 71), .read (.load (some 6)), [.t 11], none⟩,
                    ⟨(some 72), .pure .move, [.t 1], none⟩,
                    ⟨(some 73), .pure .move, [.t 2], none⟩,
                    ⟨(some 74), .pcall 582, [.t 71, .t 72, .t 73], none⟩,
                    ⟨(some 2), .pure .move, [.t 74], none⟩])))
                (.ops [⟨(some 75), .pure (.bin .add), [.t 67, .c (.int .i64 1)], none⟩,
                  ⟨(some 67), .pure .move, [.t 75], none⟩])))))))
            (.seq (.ops [⟨(some 76), .pure .move, [.t 2], none⟩,
              ⟨(some 6), .pure .move, [.t 76], none⟩])
            .ret))
            (.seq (.ops [⟨(some 78), .pure (.bin .eql), [.t 22, .c (.int .i64 4)], none⟩,
              ⟨(some 77), .pure .move, [.t 78], none⟩])
            (.cond (.t 77)
              (.seq (.ops [⟨(some 79), .pure (.faddr 5), [.t 3], none⟩,
                ⟨(some 80), .read (.load none), [.t 79], none⟩,
                ⟨(some 81), .pure .lenL, [.t 80], none⟩,
                ⟨(some 82), .pure .move, [.c (.int .i64 0)], none⟩])
              (.block 5
                (.loop [1, 2, 7, 80, 81, 82]
                  (.seq (.ops [⟨(some 83), .pure (.bin .lss), [.t 82, .t 81], none⟩])
                  (.seq (.cond (.t 83)
                    .skip
                    (.exit 5))
                  (.seq (.block 6
                    (.seq (.ops [⟨(some 84), .pure (.iaddrS 6), [.t 80, .t 82], none⟩,
                      ⟨(some 85), .read (.load (some 6)), [.t 84], none⟩,
                      ⟨(some 13), .new (.new 6 [.agg [.int .i64 0, .int .i64 0, .int .i64 0, .int .i64 0, .int .i64 0, .snil 6]]), [], none⟩,
                      ⟨none, .eff (.store 6), [.t 13, .t 85], none⟩])
                    (.ops [⟨(some 86), .pure .move, [.t 7], none⟩,
                      ⟨(some 87), .read (.load (some 6)), [.t 13], none⟩,
                      ⟨(some 88), .pure .move, [.t 1], none⟩,
                      ⟨(some 89), .pure .move, [.t 2], none⟩,
                      ⟨(some 90), .pcall 582, [.t 87, .t 88, .t 89], none⟩,
                      ⟨(some 91), .call 614, [.t 86, .t 90], none⟩])))
                  (.ops [⟨(some 92), .pure (.bin .add), [.t 82, .c (.int .i64 1)], none⟩,
                    ⟨(some 82), .pure .move, [.t 92], none⟩])))))))
              (.seq (.seq (.ops [⟨(some 94), .pure (.bin .eql), [.t 22, .c (.int .i64 6)], none⟩,
                ⟨(some 93), .pure .move, [.t 94], none⟩])
              (.cond (.t 93)
                .skip
                (.ops [⟨(some 95), .pure (.bin .eql), [.t 22, .c (.int .i64 7)], none⟩,
                  ⟨(some 93), .pure .move, [.t 95], none⟩])))
              (.cond (.t 93)
                (.seq (.ops [⟨(some 96), .pure .move, [.t 2], none⟩,
                  ⟨(some 97), .pure .lenL, [.t 96], none⟩,
                  ⟨(some 98), .pure .move, [.c (.int .i64 0)], none⟩])
                (.block 7
                  (.loop [1, 3, 7, 96, 97, 98]
                    (.seq (.ops [⟨(some 99), .pure (.bin .lss), [.t 98, .t 97], none⟩])
                    (.seq (.cond (.t 99)
                      .skip
                      (.exit 7))
                    (.seq (.block 8
                      (.seq (.ops [⟨(some 100), .pure (.iaddrS 1), [.t 96, .t 98], none⟩,
                        ⟨(some 101), .read (.load none), [.t 100], none⟩,
                        ⟨(some 15), .pure .move, [.t 101], none⟩])
                      (.ops [⟨(some 102), .pure .move, [.t 7], none⟩,
                        ⟨(some 103), .read (.load (some 6)), [.t 3], none⟩,
                        ⟨(some 104), .pure .move, [.t 1], none⟩,
                        ⟨(some 105), .pure .move, [.t 15], none⟩,
                        ⟨(some 106), .pcall 615, [.t 103, .t 104, .t 105], none⟩,
                        ⟨(some 107), .call 614, [.t 102, .t 106], none⟩])))
                    (.ops [⟨(some 108), .pure (.bin .add), [.t 98, .c (.int .i64 1)], none⟩,
                      ⟨(some 98), .pure .move, [.t 108], none⟩])))))))
                (.seq (.ops [⟨(some 110), .pure (.bin .eql), [.t 22, .c (.int .i64 5)], none⟩,
                  ⟨(some 109), .pure .move, [.t 110], none⟩])
                (.cond (.t 109)
                  (.seq (.ops [⟨(some 111), .read (.load (some 6)), [.t 3], none⟩,
                    ⟨(some 112), .pure .move, [.t 1], none⟩,
                    ⟨(some 113), .pure .move, [.t 2], none⟩,
                    ⟨(some 114), .pcall 616, [.t 111, .t 112, .t 113], none⟩,
                    ⟨(some 6), .pure .move, [.t 114], none⟩])
                  .ret)
                  .skip))))))))))))))
    (.seq (.ops [⟨(some 115), .pure .move, [.t 7], none⟩,
      ⟨(some 116), .pure .chk, [.t 115], none⟩,
      ⟨(some 117), .pure (.faddr 1), [.t 116], none⟩,
      ⟨(some 118), .read (.load none), [.t 117], none⟩,
      ⟨(some 6), .pure .move, [.t 118], none⟩])
    .ret))))) }
/-- datakit/formats.Pattern -/
def ac583 : AFn :=
  { nt := 15, res := [.cell 2 (some 6), .tmp 3], body :=
    (.seq (.ops [⟨(some 2), .new (.new 6 [.agg [.int .i64 0, .int .i64 0, .int .i64 0, .int .i64 0, .int .i64 0, .snil 6]]), [], none⟩,
      ⟨(some 3), .pure .move, [.c (.int .i64 0)], none⟩])
    (.seq (.ops [⟨(some 5), .pure .move, [.t 0], none⟩,
      ⟨(some 6), .pcall 598, [.t 5], none⟩,
      ⟨(some 4), .pure .move, [.t 6], none⟩])
    (.seq (.seq (.ops [⟨(some 7), .pure .move, [.t 4], none⟩,
      ⟨(some 8), .pure (.bin .eql), [.t 7, .c (.int .i64 12)], none⟩])
    (.cond (.t 8)
      (.seq (.ops [⟨(some 9), .pure (.build [.int .i64 0, .int .i64 0, .int .i64 0, .int .i64 0, .int .i64 0, .snil 6] []), [], none⟩,
        ⟨none, .eff (.store 6), [.t 2, .t 9], none⟩,
        ⟨(some 3), .pure .move, [.c (.int .i64 7)], none⟩])
      .ret)
      .skip))
    (.seq (.ops [⟨(some 10), .pure .move, [.t 4], none⟩,
      ⟨(some 11), .pcall 617, [.t 10], none⟩,
      ⟨(some 12), .pcall 538, [.t 11], none⟩,
      ⟨(some 13), .pure (.ext 0), [.t 12], none⟩,
      ⟨(some 14), .pure (.ext 1), [.t 12], none⟩,
      ⟨none, .eff (.store 6), [.t 2, .t 13], none⟩,
      ⟨(some 3), .pure .move, [.t 14], none⟩])
    .ret)))) }
/-- datakit/schema.empty -/
def ac597 : AFn :=
  { nt := 85, res := [.tmp 2], body :=
    (.seq (.ops [⟨(some 1), .new (.box 15), [.t 0], none⟩,
      ⟨(some 2), .pure .move, [.c (.bool false)], none⟩])
    (.seq (.ops [⟨(some 4), .pure (.faddr 6), [.t 1], none⟩,
      ⟨(some 5), .read (.load (some 6)), [.t 4], none⟩,
      ⟨(some 3), .new (.new 6 [.agg [.int .i64 0, .int .i64 0, .int .i64 0, .int .i64 0, .int .i64 0, .snil 6]]), [], none⟩,
      ⟨none, .eff (.store 6), [.t 3, .t 5], none⟩])
    (.seq (.ops [⟨(some 6), .pure (.faddr 0), [.t 1], none⟩,
      ⟨(some 7), .read (.load none), [.t 6], none⟩,
      ⟨(some 8), .pure (.bin .eql), [.t 7, .c (.int .i64 0)], none⟩,
      ⟨(some 9), .pure .move, [.t 8], none⟩,
      ⟨(some 10), .pure (.faddr 1), [.t 1], some (9, true)⟩,
      ⟨(some 11), .read (.load none), [.t 10], some (9, true)⟩,
      ⟨(some 12), .pure (.bin .eql), [.t 11, .c (.int .i64 0)], some (9, true)⟩,
      ⟨(some 13), .pure .pick, [.t 9, .t 12, .c (.bool false)], none⟩,
      ⟨(some 14), .pure .move, [.t 13], none⟩,
      ⟨(some 15), .pure (.faddr 2), [.t 1], some (14, true)⟩,
      ⟨(some 16), .read (.load none), [.t 15], some (14, true)⟩,
      ⟨(some 17), .pure (.bin .eql), [.t 16, .c (.int .i64 0)], some (14, true)⟩,
      ⟨(some 18), .pure .pick, [.t 14, .t 17, .c (.bool false)], none⟩,
      ⟨(some 19), .pure .move, [.t 18], none⟩,
      ⟨(some 20), .pure (.faddr 3), [.t 1], some (19, true)⟩,
      ⟨(some 21), .read (.load none), [.t 20], some (19, true)⟩,
      ⟨(some 22), .pure (.bin .eql), [.t 21, .c (.int .i64 0)], some (19, true)⟩,
      ⟨(some 23), .pure .pick, [.t 19, .t 22, .c (.bool false)], none⟩,
      ⟨(some 24), .pure .move, [.t 23], none⟩,
      ⟨(some 25), .pure (.faddr 4), [.t 1], some (24, true)⟩,
      ⟨(some 26), .read (.load none), [.t 25], some (24, true)⟩,
      ⟨(some 27), .pure (.bin .eql), [.t 26, .c (.str [])], some (24, true)⟩,
      ⟨(some 28), .pure .pick, [.t 24, .t 27, .c (.bool false)], none⟩,
      ⟨(some 29), .pure .move, [.t 28], none⟩,
      ⟨(some 30), .pure (.faddr 5), [.t 1], some (29, true)⟩,
      ⟨(some 31), .pure (.faddr 0), [.t 30], some (29, true)⟩,
      ⟨(some 32), .read (.load none), [.t 31], some (29, true)⟩,
      ⟨(some 33), .pure .lenL, [.t 32], some (29, true)⟩,
      ⟨(some 34), .pure (.bin .eql), [.t 33, .c (.int .i64 0)], some (29, true)⟩,
      ⟨(some 35), .pure .pick, [.t 29, .t 34, .c (.bool false)], none⟩,
      ⟨(some 36), .pure .move, [.t 35], none⟩,
      ⟨(some 37), .pure (.faddr 12), [.t 1], some (36, true)⟩,
      ⟨(some 38), .read (.load none), [.t 37], some (36, true)⟩,
      ⟨(some 39), .pure .lenL, [.t 38], some (36, true)⟩,
      ⟨(some 40), .pure (.bin .eql), [.t 39, .c (.int .i64 0)], some (36, true)⟩,
      ⟨(some 41), .pure .pick, [.t 36, .t 40, .c (.bool false)], none⟩,
      ⟨(some 42), .pure .move, [.t 41], none⟩,
      ⟨(some 43), .pure (.faddr 13), [.t 1], some (42, true)⟩,
      ⟨(some 44), .read (.load none), [.t 43], some (42, true)⟩,
      ⟨(some 45), .pure .lenL, [.t 44], some (42, true)⟩,
      ⟨(some 46), .pure (.bin .eql), [.t 45, .c (.int .i64 0)], some (42, true)⟩,
      ⟨(some 47), .pure .pick, [.t 42, .t 46, .c (.bool false)], none⟩,
      ⟨(some 48), .pure .move, [.t 47], none⟩,
      ⟨(some 49), .pure (.faddr 14), [.t 1], some (48, true)⟩,
      ⟨(some 50), .read (.load none), [.t 49], some (48, true)⟩,
      ⟨(some 51), .pure .lenL, [.t 50], some (48, true)⟩,
      ⟨(some 52), .pure (.bin .eql), [.t 51, .c (.int .i64 0)], some (48, true)⟩,
      ⟨(some 53), .pure .pick, [.t 48, .t 52, .c (.bool false)], none⟩,
      ⟨(some 54), .pure .move, [.t 53], none⟩,
      ⟨(some 55), .pure (.faddr 0), [.t 3], some (54, true)⟩,
      ⟨(some 56), .read (.load none), [.t 55], some (54, true)⟩,
      ⟨(some 57), .pure (.bin .eql), [.t 56, .c (.int .i64 0)], some (54, true)⟩,
      ⟨(some 58), .pure .pick, [.t 54, .t 57, .c (.bool false)], none⟩,
      ⟨(some 59), .pure .move, [.t 58], none⟩,
      ⟨(some 60), .pure (.faddr 1), [.t 3], some (59, true)⟩,
      ⟨(some 61), .read (.load none), [.t 60], some (59, true)⟩,
      ⟨(some 62), .pure (.bin .eql), [.t 61, .c (.int .i64 0)], some (59, true)⟩,
      ⟨(some 63), .pure .pick, [.t 59, .t 62, .c (.bool false)], none⟩,
      ⟨(some 64), .pure .move, [.t 63], none⟩,
      ⟨(some 65), .pure (.faddr 2), [.t 3], some (64, true)⟩,
      ⟨(some 66), .read (.load none), [.t 65], some (64, true)⟩,
      ⟨(some 67), .pure (.bin .eql), [.t 66, .c (.int .i64 0)], some (64, true)⟩,
      ⟨(some 68), .pure .pick, [.t 64, .t 67, .c (.bool false)], none⟩,
      ⟨(some 69), .pure .move, [.t 68], none⟩,
      ⟨(some 70), .pure (.faddr 3), [.t 3], some (69, true)⟩,
      ⟨(some 71), .read (.load none), [.t 70], some (69, true)⟩,
      ⟨(some 72), .pure (.bin .eql), [.t 71, .c (.int .i64 0)], some (69, true)⟩,
      ⟨(some 73), .pure .pick, [.t 69, .t 72, .c (.bool false)], none⟩,
      ⟨(some 74), .pure .move, [.t 73], none⟩,
      ⟨(some 75), .pure (.faddr 4), [.t 3], some (74, true)⟩,
      ⟨(some 76), .read (.load none), [.t 75], some (74, true)⟩,
      ⟨(some 77), .pure (.bin .eql), [.t 76, .c (.int .i64 0)], some (74, true)⟩,
      ⟨(some 78), .pure .pick, [.t 74, .t 77, .c (.bool false)], none⟩,
      ⟨(some 79), .pure .move, [.t 78], none⟩,
      ⟨(some 80), .pure (.faddr 5), [.t 3], some (79, true)⟩,
      ⟨(some 81), .read (.load none), [.t 80], some (79, true)⟩,
      ⟨(some 82), .pure .lenL, [.t 81], some (79, true)⟩,
      ⟨(some 83), .pure (.bin .eql), [.t 82, .c (.int .i64 0)], some (79, true)⟩,
      ⟨(some 84), .pure .pick, [.t 79, .t 83, .c (.bool false)], none⟩,
      ⟨(some 2), .pure .move, [.t 84], none⟩])
    .ret))) }
/-- datakit/formats.number -/
def ac598 : AFn :=
  { nt := 17, res := [.tmp 2], body :=
    (.seq (.ops [⟨(some 2), .pure .move, [.c (.int .i64 0)], none⟩])
    (.seq (.seq (.ops [⟨(some 5), .pcall 624, [], none⟩,
      ⟨(some 6), .pure .lenL, [.t 5], none⟩,
      ⟨(some 7), .pure .move, [.c (.int .i64 0)], none⟩])
    (.block 0
      (.loop [0, 5, 6, 7]
        (.seq (.ops [⟨(some 8), .pure (.bin .lss), [.t 7, .t 6], none⟩])
        (.seq (.cond (.t 8)
          .skip
          (.exit 0))
        (.seq (.block 1
          (.seq (.ops [⟨(some 9), .pure .move, [.t 7], none⟩,
            ⟨(some 10), .pure (.iaddrS 1), [.t 5, .t 7], none⟩,
            ⟨(some 11), .read (.load none), [.t 10], none⟩,
            ⟨(some 3), .pure .move, [.t 9], none⟩,
            ⟨(some 4), .pure .move, [.t 11], none⟩])
          (.seq (.ops [⟨(some 12), .pure .move, [.t 4], none⟩,
            ⟨(some 13), .pure .move, [.t 0], none⟩,
            ⟨(some 14), .pure (.bin .eql), [.t 12, .t 13], none⟩])
          (.cond (.t 14)
            (.seq (.ops [⟨(some 15), .pure .move, [.t 3], none⟩,
              ⟨(some 2), .pure .move, [.t 15], none⟩])
            .ret)
            .skip))))
        (.ops [⟨(some 16), .pure (.bin .add), [.t 7, .c (.int .i64 1)], none⟩,
          ⟨(some 7), .pure .move, [.t 16], none⟩])))))))
    (.seq (.ops [⟨(some 2), .pure .move, [.c (.int .i64 12)], none⟩])
    .ret))) }
/-- datakit/regex.write -/
def ac607 : AFn :=
  { nt := 92, res := [], body :=
    (.seq (.ops [⟨(some 3), .new (.box 6), [.t 1], none⟩])
    (.seq (.ops [⟨(some 4), .pure .move, [.c (.str [])], none⟩,
      ⟨(some 5), .pure .move, [.c (.int .i64 4)], none⟩])
    (.seq (.seq (.ops [⟨(some 8), .pure (.faddr 0), [.t 3], none⟩,
      ⟨(some 9), .read (.load none), [.t 8], none⟩])
    (.block 0
      (.seq (.ops [⟨(some 11), .pure (.bin .eql), [.t 9, .c (.int .i64 0)], none⟩,
        ⟨(some 10), .pure .move, [.t 11], none⟩])
      (.cond (.t 10)
        (.seq (.ops [⟨(some 12), .pure .move, [.t 0], none⟩,
          ⟨(some 13), .call 298, [.t 12, .c (.str [91, 93])], none⟩])
        .ret)
        (.seq (.ops [⟨(some 15), .pure (.bin .eql), [.t 9, .c (.int .i64 1)], none⟩,
          ⟨(some 14), .pure .move, [.t 15], none⟩])
        (.cond (.t 14)
          (.seq (.ops [⟨(some 16), .pure .move, [.t 0], none⟩,
            ⟨(some 17), .call 298, [.t 16, .c (.str [40, 41])], none⟩])
          .ret)
          (.seq (.ops [⟨(some 19), .pure (.bin .eql), [.t 9, .c (.int .i64 2)], none⟩,
            ⟨(some 18), .pure .move, [.t 19], none⟩])
          (.cond (.t 18)
            (.seq (.block 1
              (.seq (.ops [⟨(some 33), .pure (.faddr 1), [.t 3], none⟩,
                ⟨(some 34), .read (.load none), [.t 33], none⟩,
                ⟨(some 35), .pure (.faddr 2), [.t 3], none⟩,
                ⟨(some 36), .read (.load none), [.t 35], none⟩,
                ⟨(some 37), .pure (.bin .eql), [.t 34, .t 36], none⟩,
                ⟨(some 32), .pure .move, [.t 37], none⟩])
              (.cond (.t 32)
                (.ops [⟨(some 38), .pure .move, [.t 0], none⟩,
                  ⟨(some 39), .pure (.faddr 1), [.t 3], none⟩,
                  ⟨(some 40), .read (.load none), [.t 39], none⟩,
                  ⟨(some 41), .pcall 626, [.t 40], none⟩,
                  ⟨(some 42), .call 298, [.t 38, .t 41], none⟩])
                (.seq (.ops [⟨(some 44), .pure (.faddr 1), [.t 3], none⟩,
                  ⟨(some 45), .read (.load none), [.t 44], none⟩,
                  ⟨(some 46), .pure (.bin .eql), [.t 45, .c (.int .i64 0)], none⟩,
                  ⟨(some 47), .pure .move, [.t 46], none⟩,
                  ⟨(some 48), .pure (.faddr 2), [.t 3], some (47, true)⟩,
                  ⟨(some 49), .read (.load none), [.t 48], some (47, true)⟩,
                  ⟨(some 50), .pure (.bin .eql), [.t 49, .c (.int .i64 255)], some (47, true)⟩,
                  ⟨(some 51), .pure .pick, [.t 47, .t 50, .c (.bool false)], none⟩,
                  ⟨(some 43), .pure .move, [.t 51], none⟩])
                (.cond (.t 43)
                  (.ops [⟨(some 52), .pure .move, [.t 0], none⟩,
                    ⟨(some 53), .call 627, [.t 52, .c (.int .u8 46)], none⟩])
                  (.ops [⟨(some 20), .pure .move, [.t 0], none⟩,
                    ⟨(some 21), .pure (.faddr 1), [.t 3], none⟩,
                    ⟨(some 22), .read (.load none), [.t 21], none⟩,
                    ⟨(some 23), .pcall 626, [.t 22], none⟩,
                    ⟨(some 24), .pure (.bin .add), [.c (.str [91]), .t 23], none⟩,
                    ⟨(some 25), .pure (.bin .add), [.t 24, .c (.str [45])], none⟩,
                    ⟨(some 26), .pure (.faddr 2), [.t 3], none⟩,
                    ⟨(some 27), .read (.load none), [.t 26], none⟩,
                    ⟨(some 28), .pcall 626, [.t 27], none⟩,
                    ⟨(some 29), .pure (.bin .add), [.t 25, .t 28], none⟩,
                    ⟨(some 30), .pure (.bin .add), [.t 29, .c (.str [93])], none⟩,
                    ⟨(some 31), .call 298, [.t 20, .t 30], none⟩]))))))
            .ret)
            (.seq (.ops [⟨(some 55), .pure (.bin .eql), [.t 9, .c (.int .i64 4)], none⟩,
              ⟨(some 54), .pure .move, [.t 55], none⟩])
            (.cond (.t 54)
              (.ops [⟨(some 4), .pure .move, [.c (.str [124])], none⟩,
                ⟨(some 5), .pure .move, [.c (.int .i64 2)], none⟩])
              (.seq (.ops [⟨(some 57), .pure (.bin .eql), [.t 9, .c (.int .i64 6)], none⟩,
                ⟨(some 56), .pure .move, [.t 57], none⟩])
              (.cond (.t 56)
                (.ops [⟨(some 4), .pure .move, [.c (.str [38])], none⟩,
                  ⟨(some 5), .pure .move, [.c (.int .i64 3)], none⟩])
                (.seq (.ops [⟨(some 59), .pure (.bin .eql), [.t 9, .c (.int .i64 7)], none⟩,
                  ⟨(some 58), .pure .move, [.t 59], none⟩])
                (.cond (.t 58)
                  (.ops [⟨(some 60), .pure .move, [.t 0], none⟩,
                    ⟨(some 61), .call 627, [.t 60, .c (.int .u8 33)], none⟩])
                  (.seq (.ops [⟨(some 63), .pure (.bin .eql), [.t 9, .c (.int .i64 5)], none⟩,
                    ⟨(some 62), .pure .move, [.t 63], none⟩])
                  (.cond (.t 62)
                    (.ops [⟨(some 5), .pure .move, [.c (.int .i64 5)], none⟩])
                    .skip))))))))))))))))
    (.seq (.seq (.ops [⟨(some 64), .pure (.faddr 5), [.t 3], none⟩,
      ⟨(some 65), .read (.load none), [.t 64], none⟩,
      ⟨(some 66), .pure .lenL, [.t 65], none⟩,
      ⟨(some 67), .pure .move, [.c (.int .i64 0)], none⟩])
    (.block 2
      (.loop [0, 3, 4, 5, 65, 66, 67]
        (.seq (.ops [⟨(some 68), .pure (.bin .lss), [.t 67, .t 66], none⟩])
        (.seq (.cond (.t 68)
          .skip
          (.exit 2))
        (.seq (.block 3
          (.seq (.ops [⟨(some 69), .pure .move, [.t 67], none⟩,
            ⟨(some 70), .pure (.iaddrS 6), [.t 65, .t 67], none⟩,
            ⟨(some 71), .read (.load (some 6)), [.t 70], none⟩,
            ⟨(some 7), .new (.new 6 [.agg [.int .i64 0, .int .i64 0, .int .i64 0, .int .i64 0, .int .i64 0, .snil 6]]), [], none⟩,
            ⟨(some 6), .pure .move, [.t 69], none⟩,
            ⟨none, .eff (.store 6), [.t 7, .t 71], none⟩])
          (.seq (.seq (.ops [⟨(some 72), .pure .move, [.t 6], none⟩,
            ⟨(some 73), .pure (.bin .gtr), [.t 72, .c (.int .i64 0)], none⟩])
          (.cond (.t 73)
            (.ops [⟨(some 74), .pure .move, [.t 0], none⟩,
              ⟨(some 75), .pure .move, [.t 4], none⟩,
              ⟨(some 76), .call 298, [.t 74, .t 75], none⟩])
            .skip))
          (.ops [⟨(some 77), .pure .move, [.t 0], none⟩,
            ⟨(some 78), .read (.load (some 6)), [.t 7], none⟩,
            ⟨(some 79), .pure .move, [.t 5], none⟩,
            ⟨(some 80), .pcall 628, [.t 77, .t 78, .t 79], none⟩]))))
        (.ops [⟨(some 81), .pure (.bin .add), [.t 67, .c (.int .i64 1)], none⟩,
          ⟨(some 67), .pure .move, [.t 81], none⟩])))))))
    (.seq (.ops [⟨(some 82), .pure (.faddr 0), [.t 3], none⟩,
      ⟨(some 83), .read (.load none), [.t 82], none⟩,
      ⟨(some 84), .pure (.bin .eql), [.t 83, .c (.int .i64 5)], none⟩])
    (.cond (.t 84)
      (.ops [⟨(some 85), .pure .move, [.t 0], none⟩,
        ⟨(some 86), .pure (.faddr 3), [.t 3], none⟩,
        ⟨(some 87), .read (.load none), [.t 86], none⟩,
        ⟨(some 88), .pure (.faddr 4), [.t 3], none⟩,
        ⟨(some 89), .read (.load none), [.t 88], none⟩,
        ⟨(some 90), .pcall 629, [.t 87, .t 89], none⟩,
        ⟨(some 91), .call 298, [.t 85, .t 90], none⟩])
      .skip)))))) }
/-- (*datakit/regex.parser).prefix -/
def ac608 : AFn :=
  { nt := 23, res := [.cell 2 (some 6)], body :=
    (.seq (.ops [⟨(some 2), .new (.new 6 [.agg [.int .i64 0, .int .i64 0, .int .i64 0, .int .i64 0, .int .i64 0, .snil 6]]), [], none⟩])
    (.seq (.seq (.ops [⟨(some 4), .pure .move, [.t 0], none⟩,
      ⟨(some 5), .call 630, [.t 4, .c (.int .u8 33)], none⟩,
      ⟨(some 6), .pure (.un .not), [.t 5], none⟩])
    (.cond (.t 6)
      (.seq (.ops [⟨(some 7), .pure .move, [.t 0], none⟩,
        ⟨(some 8), .call 631, [.t 7], none⟩,
        ⟨none, .eff (.store 6), [.t 2, .t 8], none⟩])
      .ret)
      .skip))
    (.seq (.ops [⟨(some 9), .pure .move, [.t 0], none⟩,
      ⟨(some 10), .call 632, [.t 9], none⟩])
    (.seq (.ops [⟨(some 11), .pure .move, [.t 0], none⟩,
      ⟨(some 12), .call 608, [.t 11], none⟩,
      ⟨(some 13), .new (.buildSlice 6 [.agg [.int .i64 0, .int .i64 0, .int .i64 0, .int .i64 0, .int .i64 0, .snil 6]] [0]), [.t 12], none⟩,
      ⟨(some 14), .pure (.build [.int .i64 0, .int .i64 0, .int .i64 0, .int .i64 0, .int .i64 0, .snil 6] [(0, 1), (5, 1)]), [.c (.int .i64 7), .t 13], none⟩,
      ⟨(some 3), .new (.new 6 [.agg [.int .i64 0, .int .i64 0, .int .i64 0, .int .i64 0, .int .i64 0, .snil 6]]), [], none⟩,
      ⟨none, .eff (.store 6), [.t 3, .t 14], none⟩])
    (.seq (.ops [⟨(some 15), .pure .move, [.t 0], none⟩,
      ⟨(some 16), .pure .chk, [.t 15], none⟩,
      ⟨(some 17), .pure (.faddr 2), [.t 16], none⟩,
      ⟨(some 18), .read (.load none), [.t 17], none⟩,
      ⟨(some 19), .pure (.bin .sub), [.t 18, .c (.int .i64 1)], none⟩,
      ⟨(some 20), .pure .chk, [.t 15], none⟩,
      ⟨(some 21), .pure (.faddr 2), [.t 20], none⟩,
      ⟨none, .eff (.store 1), [.t 21, .t 19], none⟩])
    (.seq (.ops [⟨(some 22), .read (.load (some 6)), [.t 3], none⟩,
      ⟨none, .eff (.store 6), [.t 2, .t 22], none⟩])
    .ret)))))) }
/-- (*datakit/regex.parser).more -/
def ac609 : AFn :=
  { nt := 31, res := [.tmp 4], body :=
    (.seq (.ops [⟨(some 4), .pure .move, [.c (.bool false)], none⟩])
    (.seq (.seq (.ops [⟨(some 6), .pure .move, [.t 1], none⟩])
    (.block 0
      (.seq (.ops [⟨(some 8), .pure (.bin .eql), [.t 6, .c (.int .i64 1)], none⟩,
        ⟨(some 7), .pure .move, [.t 8], none⟩])
      (.cond (.t 7)
        (.seq (.ops [⟨(some 9), .pure .move, [.t 0], none⟩,
          ⟨(some 10), .call 630, [.t 9, .c (.int .u8 124)], none⟩,
          ⟨(some 4), .pure .move, [.t 10], none⟩])
        .ret)
        (.seq (.ops [⟨(some 12), .pure (.bin .eql), [.t 6, .c (.int .i64 2)], none⟩,
          ⟨(some 11), .pure .move, [.t 12], none⟩])
        (.cond (.t 11)
          (.seq (.ops [⟨(some 13), .pure .move, [.t 0], none⟩,
            ⟨(some 14), .call 630, [.t 13, .c (.int .u8 38)], none⟩,
            ⟨(some 4), .pure .move, [.t 14], none⟩])
          .ret)
          .skip))))))
    (.seq (.ops [⟨(some 15), .pure .move, [.t 0], none⟩,
      ⟨(some 16), .call 633, [.t 15], none⟩,
      ⟨(some 5), .pure .move, [.t 16], none⟩])
    (.seq (.ops [⟨(some 17), .pure .move, [.t 5], none⟩,
      ⟨(some 18), .pure (.bin .geq), [.t 17, .c (.int .i64 0)], none⟩,
      ⟨(some 19), .pure .move, [.t 18], none⟩,
      ⟨(some 20), .pure .move, [.t 5], some (19, true)⟩,
      ⟨(some 21), .pure (.bin .neq), [.t 20, .c (.int .i64 124)], some (19, true)⟩,
      ⟨(some 22), .pure .pick, [.t 19, .t 21, .c (.bool false)], none⟩,
      ⟨(some 23), .pure .move, [.t 22], none⟩,
      ⟨(some 24), .pure .move, [.t 5], some (23, true)⟩,
      ⟨(some 25), .pure (.bin .neq), [.t 24, .c (.int .i64 38)], some (23, true)⟩,
      ⟨(some 26), .pure .pick, [.t 23, .t 25, .c (.bool false)], none⟩,
      ⟨(some 27), .pure .move, [.t 26], none⟩,
      ⟨(some 28), .pure .move, [.t 5], some (27, true)⟩,
      ⟨(some 29), .pure (.bin .neq), [.t 28, .c (.int .i64 41)], some (27, true)⟩,
      ⟨(some 30), .pure .pick, [.t 27, .t 29, .c (.bool false)], none⟩,
      ⟨(some 4), .pure .move, [.t 30], none⟩])
    .ret)))) }
/-- datakit/datakitref01.at -/
def ac610 : AFn :=
  { nt := 18, res := [.tmp 4], body :=
    (.seq (.ops [⟨(some 4), .pure .move, [.c (.int .i64 0)], none⟩])
    (.seq (.seq (.ops [⟨(some 5), .pure .move, [.t 1], none⟩,
      ⟨(some 6), .pure .move, [.t 0], none⟩,
      ⟨(some 7), .pure .lenS, [.t 6], none⟩,
      ⟨(some 8), .pure (.bin .geq), [.t 5, .t 7], none⟩])
    (.cond (.t 8)
      (.seq (.ops [⟨(some 4), .pure .move, [.c (.int .i64 0)], none⟩])
      .ret)
      .skip))
    (.seq (.ops [⟨(some 9), .pure .move, [.t 0], none⟩,
      ⟨(some 10), .pure .move, [.t 0], none⟩,
      ⟨(some 11), .pure .lenS, [.t 10], none⟩,
      ⟨(some 12), .pure (.bin .sub), [.t 11, .c (.int .i64 1)], none⟩,
      ⟨(some 13), .pure .move, [.t 1], none⟩,
      ⟨(some 14), .pure (.bin .sub), [.t 12, .t 13], none⟩,
      ⟨(some 15), .pure .idxStr, [.t 9, .t 14], none⟩,
      ⟨(some 16), .pure (.conv .i64), [.t 15], none⟩,
      ⟨(some 17), .pure (.bin .sub), [.t 16, .c (.int .i64 48)], none⟩,
      ⟨(some 4), .pure .move, [.t 17], none⟩])
    .ret))) }
/-- datakit/datakitref01.text -/
def ac611 : AFn :=
  { nt := 30, res := [.tmp 2], body :=
    (.seq (.ops [⟨(some 2), .pure .move, [.c (.str [])], none⟩])
    (.seq (.ops [⟨(some 5), .pure .move, [.t 0], none⟩,
      ⟨(some 6), .pure .lenL, [.t 5], none⟩,
      ⟨(some 7), .new (.mkSlice 1 1 (.int .u8 0)), [.t 6, .t 6], none⟩,
      ⟨(some 3), .pure .move, [.t 7], none⟩])
    (.seq (.seq (.ops [⟨(some 4), .pure .move, [.c (.int .i64 0)], none⟩])
    (.block 0
      (.loop [0, 3, 4]
        (.seq (.seq (.ops [⟨(some 8), .pure .move, [.t 4], none⟩,
          ⟨(some 9), .pure .move, [.t 0], none⟩,
          ⟨(some 10), .pure .lenL, [.t 9], none⟩,
          ⟨(some 11), .pure (.bin .lss), [.t 8, .t 10], none⟩])
        (.cond (.t 11)
          .skip
          (.exit 0)))
        (.seq (.block 1
          (.ops [⟨(some 14), .pure .move, [.t 3], none⟩,
            ⟨(some 15), .pure .move, [.t 0], none⟩,
            ⟨(some 16), .pure .lenL, [.t 15], none⟩,
            ⟨(some 17), .pure (.bin .sub), [.t 16, .c (.int .i64 1)], none⟩,
            ⟨(some 18), .pure .move, [.t 4], none⟩,
            ⟨(some 19), .pure (.bin .sub), [.t 17, .t 18], none⟩,
            ⟨(some 20), .pure .move, [.t 0], none⟩,
            ⟨(some 21), .pure .move, [.t 4], none⟩,
            ⟨(some 22), .pure (.iaddrS 1), [.t 20, .t 21], none⟩,
            ⟨(some 23), .read (.load none), [.t 22], none⟩,
            ⟨(some 24), .pure (.bin .add), [.c (.int .i64 48), .t 23], none⟩,
            ⟨(some 25), .pure (.conv .u8), [.t 24], none⟩,
            ⟨(some 26), .pure (.iaddrS 1), [.t 14, .t 19], none⟩,
            ⟨none, .eff (.store 1), [.t 26, .t 25], none⟩]))
        (.ops [⟨(some 12), .pure .move, [.t 4], none⟩,
          ⟨(some 13), .pure (.bin .add), [.t 12, .c (.int .i64 1)], none⟩,
          ⟨(some 4), .pure .move, [.t 13], none⟩]))))))
    (.seq (.ops [⟨(some 27), .pure .move, [.t 3], none⟩,
      ⟨(some 28), .read .bytesStr, [.t 27], none⟩,
      ⟨(some 29), .pcall 612, [.t 28], none⟩,
      ⟨(some 2), .pure .move, [.t 29], none⟩])
    .ret)))) }
/-- datakit/datakitref01.Strip -/
def ac612 : AFn :=
  { nt := 19, res := [.tmp 2], body :=
    (.seq (.ops [⟨(some 2), .pure .move, [.c (.str [])], none⟩])
    (.seq (.ops [⟨(some 3), .pure .move, [.c (.int .i64 0)], none⟩])
    (.seq (.block 0
      (.loop [0, 3]
        (.seq (.seq (.ops [⟨(some 4), .pure .move, [.t 3], none⟩,
          ⟨(some 5), .pure .move, [.t 0], none⟩,
          ⟨(some 6), .pure .lenS, [.t 5], none⟩,
          ⟨(some 7), .pure (.bin .lss), [.t 4, .t 6], none⟩,
          ⟨(some 8), .pure .move, [.t 7], none⟩,
          ⟨(some 9), .pure .move, [.t 0], some (8, true)⟩,
          ⟨(some 10), .pure .move, [.t 3], some (8, true)⟩,
          ⟨(some 11), .pure .idxStr, [.t 9, .t 10], some (8, true)⟩,
          ⟨(some 12), .pure (.bin .eql), [.t 11, .c (.int .u8 48)], some (8, true)⟩,
          ⟨(some 13), .pure .pick, [.t 8, .t 12, .c (.bool false)], none⟩])
        (.cond (.t 13)
          .skip
          (.exit 0)))
        (.block 1
          (.ops [⟨(some 14), .pure .move, [.t 3], none⟩,
            ⟨(some 15), .pure (.bin .add), [.t 14, .c (.int .i64 1)], none⟩,
            ⟨(some 3), .pure .move, [.t 15], none⟩])))))
    (.seq (.ops [⟨(some 16), .pure .move, [.t 0], none⟩,
      ⟨(some 17), .pure .move, [.t 3], none⟩,
      ⟨(some 18), .pure (.sliceS true false), [.t 16, .t 17], none⟩,
      ⟨(some 2), .pure .move, [.t 18], none⟩])
    .ret)))) }
/-- datakit/regex.newPlaces -/
def ac613 : AFn :=
  { nt := 9, res := [.tmp 2], body :=
    (.seq (.ops [⟨(some 2), .pure .move, [.c (.nilp)], none⟩])
    (.seq (.ops [⟨(some 3), .pure .move, [.t 0], none⟩,
      ⟨(some 4), .pure .lenS, [.t 3], none⟩,
      ⟨(some 5), .pure (.bin .add), [.t 4, .c (.int .i64 1)], none⟩,
      ⟨(some 6), .new (.mkSlice 1 1 (.bool false)), [.t 5, .t 5], none⟩,
      ⟨(some 7), .pure (.build [.snil 1, .snil 1] [(0, 1)]), [.t 6], none⟩,
      ⟨(some 8), .new (.box 2), [.t 7], none⟩,
      ⟨(some 2), .pure .move, [.t 8], none⟩])
    .ret)) }
/-- (*datakit/regex.places).add -/
def ac614 : AFn :=
  { nt := 37, res := [], body :=
    (.seq (.ops [⟨(some 6), .pure .move, [.t 1], none⟩,
      ⟨(some 7), .pure .lenL, [.t 6], none⟩,
      ⟨(some 8), .pure .move, [.c (.int .i64 0)], none⟩])
    (.block 0
      (.loop [0, 6, 7, 8]
        (.seq (.ops [⟨(some 9), .pure (.bin .lss), [.t 8, .t 7], none⟩])
        (.seq (.cond (.t 9)
          .skip
          (.exit 0))
        (.seq (.block 1
          (.seq (.ops [⟨(some 10), .pure (.iaddrS 1), [.t 6, .t 8], none⟩,
            ⟨(some 11), .read (.load none), [.t 10], none⟩,
            ⟨(some 5), .pure .move, [.t 11], none⟩])
          (.seq (.ops [⟨(some 12), .pure .move, [.t 0], none⟩,
            ⟨(some 13), .pure .chk, [.t 12], none⟩,
            ⟨(some 14), .pure (.faddr 0), [.t 13], none⟩,
            ⟨(some 15), .read (.load none), [.t 14], none⟩,
            ⟨(some 16), .pure .move, [.t 5], none⟩,
            ⟨(some 17), .pure (.iaddrS 1), [.t 15, .t 16], none⟩,
            ⟨(some 18), .read (.load none), [.t 17], none⟩,
            ⟨(some 19), .pure (.un .not), [.t 18], none⟩])
          (.cond (.t 19)
            (.seq (.ops [⟨(some 20), .pure .move, [.t 0], none⟩,
              ⟨(some 21), .pure .chk, [.t 20], none⟩,
              ⟨(some 22), .pure (.faddr 0), [.t 21], none⟩,
              ⟨(some 23), .read (.load none), [.t 22], none⟩,
              ⟨(some 24), .pure .move, [.t 5], none⟩,
              ⟨(some 25), .pure (.iaddrS 1), [.t 23, .t 24], none⟩,
              ⟨none, .eff (.store 1), [.t 25, .c (.bool true)], none⟩])
            (.ops [⟨(some 26), .pure .move, [.t 0], none⟩,
              ⟨(some 27), .pure .move, [.t 0], none⟩,
              ⟨(some 28), .pure .chk, [.t 27], none⟩,
              ⟨(some 29), .pure (.faddr 1), [.t 28], none⟩,
              ⟨(some 30), .read (.load none), [.t 29], none⟩,
              ⟨(some 31), .pure .move, [.t 5], none⟩,
              ⟨(some 32), .new (.buildSlice 1 [.int .i64 0] [0]), [.t 31], none⟩,
              ⟨(some 33), .eff (.append 1 8), [.t 30, .t 32], none⟩,
              ⟨(some 34), .pure .chk, [.t 26], none⟩,
              ⟨(some 35), .pure (.faddr 1), [.t 34], none⟩,
              ⟨none, .eff (.store 1), [.t 35, .t 33], none⟩]))
            .skip))))
        (.ops [⟨(some 36), .pure (.bin .add), [.t 8, .c (.int .i64 1)], none⟩,
          ⟨(some 8), .pure .move, [.t 36], none⟩]))))))) }
/-- datakit/regex.single -/
def ac615 : AFn :=
  { nt := 80, res := [.tmp 6], body :=
    (.seq (.ops [⟨(some 3), .new (.box 6), [.t 0], none⟩,
      ⟨(some 6), .pure .move, [.c (.snil 1)], none⟩])
    (.seq (.ops [⟨(some 14), .pure .move, [.t 1], none⟩,
      ⟨(some 15), .pure .lenS, [.t 14], none⟩,
      ⟨(some 16), .pure (.bin .add), [.t 15, .c (.int .i64 1)], none⟩,
      ⟨(some 17), .new (.mkSlice 1 8 (.int .i64 0)), [.t 16, .t 16], none⟩,
      ⟨(some 7), .pure .move, [.t 17], none⟩])
    (.seq (.seq (.ops [⟨(some 18), .pure (.faddr 5), [.t 3], none⟩,
      ⟨(some 19), .read (.load none), [.t 18], none⟩,
      ⟨(some 20), .pure .lenL, [.t 19], none⟩,
      ⟨(some 21), .pure .move, [.c (.int .i64 0)], none⟩])
    (.block 0
      (.loop [1, 2, 3, 7, 19, 20, 21]
        (.seq (.ops [⟨(some 22), .pure (.bin .lss), [.t 21, .t 20], none⟩])
        (.seq (.cond (.t 22)
          .skip
          (.exit 0))
        (.seq (.block 1
          (.seq (.ops [⟨(some 23), .pure (.iaddrS 6), [.t 19, .t 21], none⟩,
            ⟨(some 24), .read (.load (some 6)), [.t 23], none⟩,
            ⟨(some 9), .new (.new 6 [.agg [.int .i64 0, .int .i64 0, .int .i64 0, .int .i64 0, .int .i64 0, .snil 6]]), [], none⟩,
            ⟨none, .eff (.store 6), [.t 9, .t 24], none⟩])
          (.seq (.ops [⟨(some 25), .read (.load (some 6)), [.t 9], none⟩,
            ⟨(some 26), .pure .move, [.t 1], none⟩,
            ⟨(some 27), .pure .move, [.t 2], none⟩,
            ⟨(some 28), .new (.buildSlice 1 [.int .i64 0] [0]), [.t 27], none⟩,
            ⟨(some 29), .pcall 582, [.t 25, .t 26, .t 28], none⟩,
            ⟨(some 30), .pure .lenL, [.t 29], none⟩,
            ⟨(some 31), .pure .move, [.c (.int .i64 0)], none⟩])
          (.block 2
            (.loop [1, 2, 3, 7, 19, 20, 21, 29, 30, 31]
              (.seq (.ops [⟨(some 32), .pure (.bin .lss), [.t 31, .t 30], none⟩])
              (.seq (.cond (.t 32)
                .skip
                (.exit 2))
              (.seq (.block 3
                (.seq (.ops [⟨(some 33), .pure (.iaddrS 1), [.t 29, .t 31], none⟩,
                  ⟨(some 34), .read (.load none), [.t 33], none⟩,
                  ⟨(some 11), .pure .move, [.t 34], none⟩])
                (.ops [⟨(some 35), .pure .move, [.t 7], none⟩,
                  ⟨(some 36), .pure .move, [.t 11], none⟩,
                  ⟨(some 37), .pure (.iaddrS 1), [.t 35, .t 36], none⟩,
                  ⟨(some 38), .read (.load none), [.t 37], none⟩,
                  ⟨(some 39), .pure (.bin .add), [.t 38, .c (.int .i64 1)], none⟩,
                  ⟨(some 40), .pure (.iaddrS 1), [.t 35, .t 36], none⟩,
                  ⟨none, .eff (.store 1), [.t 40, .t 39], none⟩])))
              (.ops [⟨(some 41), .pure (.bin .add), [.t 31, .c (.int .i64 1)], none⟩,
                ⟨(some 31), .pure .move, [.t 41], none⟩])))))))))
        (.ops [⟨(some 42), .pure (.bin .add), [.t 21, .c (.int .i64 1)], none⟩,
          ⟨(some 21), .pure .move, [.t 42], none⟩])))))))
    (.seq (.ops [⟨(some 12), .pure .move, [.c (.snil 1)], none⟩])
    (.seq (.seq (.ops [⟨(some 43), .pure .move, [.t 2], none⟩,
      ⟨(some 13), .pure .move, [.t 43], none⟩])
    (.block 4
      (.loop [1, 3, 7, 12, 13]
        (.seq (.seq (.ops [⟨(some 44), .pure .move, [.t 13], none⟩,
          ⟨(some 45), .pure .move, [.t 1], none⟩,
          ⟨(some 46), .pure .lenS, [.t 45], none⟩,
          ⟨(some 47), .pure (.bin .leq), [.t 44, .t 46], none⟩])
        (.cond (.t 47)
          .skip
          (.exit 4)))
        (.seq (.block 5
          (.seq (.ops [⟨(some 50), .pure (.faddr 0), [.t 3], none⟩,
            ⟨(some 51), .read (.load none), [.t 50], none⟩,
            ⟨(some 52), .pure (.bin .eql), [.t 51, .c (.int .i64 6)], none⟩,
            ⟨(some 53), .pure .move, [.t 52], none⟩,
            ⟨(some 54), .pure .move, [.t 7], some (53, true)⟩,
            ⟨(some 55), .pure .move, [.t 13], some (53, true)⟩,
            ⟨(some 56), .pure (.iaddrS 1), [.t 54, .t 55], some (53, true)⟩,
            ⟨(some 57), .read (.load none), [.t 56], some (53, true)⟩,
            ⟨(some 58), .pure (.faddr 5), [.t 3], some (53, true)⟩,
            ⟨(some 59), .read (.load none), [.t 58], some (53, true)⟩,
            ⟨(some 60), .pure .lenL, [.t 59], some (53, true)⟩,
            ⟨(some 61), .pure (.bin .eql), [.t 57, .t 60], some (53, true)⟩,
            ⟨(some 62), .pure .pick, [.t 53, .t 61, .c (.bool false)], none⟩,
            ⟨(some 63), .pure .move, [.t 62], none⟩,
            ⟨(some 64), .pure (.faddr 0), [.t 3], some (63, false)⟩,
            ⟨(some 65), .read (.load none), [.t 64], some (63, false)⟩,
            ⟨(some 66), .pure (.bin .eql), [.t 65, .c (.int .i64 7)], some (63, false)⟩,
            ⟨(some 67), .pure .move, [.t 66], some (63, false)⟩,
            ⟨(some 68), .pure .move, [.t 7], some (67, true)⟩,
            ⟨(some 69), .pure .move, [.t 13], some (67, true)⟩,
            ⟨(some 70), .pure (.iaddrS 1), [.t 68, .t 69], some (67, true)⟩,
            ⟨(some 71), .read (.load none), [.t 70], some (67, true)⟩,
            ⟨(some 72), .pure (.bin .eql), [.t 71, .c (.int .i64 0)], some (67, true)⟩,
            ⟨(some 73), .pure .pick, [.t 67, .t 72, .c (.bool false)], some (63, false)⟩,
            ⟨(some 74), .pure .pick, [.t 63, .c (.bool true), .t 73], none⟩])
          (.cond (.t 74)
            (.ops [⟨(some 75), .pure .move, [.t 12], none⟩,
              ⟨(some 76), .pure .move, [.t 13], none⟩,
              ⟨(some 77), .new (.buildSlice 1 [.int .i64 0] [0]), [.t 76], none⟩,
              ⟨(some 78), .eff (.append 1 8), [.t 75, .t 77], none⟩,
              ⟨(some 12), .pure .move, [.t 78], none⟩])
            .skip)))
        (.ops [⟨(some 48), .pure .move, [.t 13], none⟩,
          ⟨(some 49), .pure (.bin .add), [.t 48, .c (.int .i64 1)], none⟩,
          ⟨(some 13), .pure .move, [.t 49], none⟩]))))))
    (.seq (.ops [⟨(some 79), .pure .move, [.t 12], none⟩,
      ⟨(some 6), .pure .move, [.t 79], none⟩])
    .ret)))))) }
/-- datakit/regex.repeated -/
def ac616 : AFn :=
  { nt := 70, res := [.tmp 6], body :=
    (.seq (.ops [⟨(some 3), .new (.box 6), [.t 0], none⟩,
      ⟨(some 6), .pure .move, [.c (.snil 1)], none⟩])
    (.seq (.seq (.ops [⟨(some 10), .pure (.faddr 3), [.t 3], none⟩,
      ⟨(some 11), .read (.load none), [.t 10], none⟩,
      ⟨(some 12), .pure .move, [.c (.int .i64 0)], none⟩])
    (.block 0
      (.loop [1, 2, 3, 11, 12]
        (.seq (.ops [⟨(some 13), .pure (.bin .lss), [.t 12, .t 11], none⟩])
        (.seq (.cond (.t 13)
          .skip
          (.exit 0))
        (.seq (.block 1
          (.ops [⟨(some 14), .pure (.faddr 5), [.t 3], none⟩,
            ⟨(some 15), .read (.load none), [.t 14], none⟩,
            ⟨(some 16), .pure (.iaddrS 6), [.t 15, .c (.int .i64 0)], none⟩,
            ⟨(some 17), .read (.load (some 6)), [.t 16], none⟩,
            ⟨(some 18), .pure .move, [.t 1], none⟩,
            ⟨(some 19), .pure .move, [.t 2], none⟩,
            ⟨(some 20), .pcall 582, [.t 17, .t 18, .t 19], none⟩,
            ⟨(some 2), .pure .move, [.t 20], none⟩]))
        (.ops [⟨(some 21), .pure (.bin .add), [.t 12, .c (.int .i64 1)], none⟩,
          ⟨(some 12), .pure .move, [.t 21], none⟩])))))))
    (.seq (.ops [⟨(some 22), .pure .move, [.t 1], none⟩,
      ⟨(some 23), .pcall 613, [.t 22], none⟩,
      ⟨(some 7), .pure .move, [.t 23], none⟩])
    (.seq (.ops [⟨(some 24), .pure .move, [.t 7], none⟩,
      ⟨(some 25), .pure .move, [.t 2], none⟩,
      ⟨(some 26), .call 614, [.t 24, .t 25], none⟩])
    (.seq (.seq (.ops [⟨(some 27), .pure (.faddr 3), [.t 3], none⟩,
      ⟨(some 28), .read (.load none), [.t 27], none⟩,
      ⟨(some 8), .pure .move, [.t 28], none⟩])
    (.block 2
      (.loop [1, 2, 3, 7, 8]
        (.seq (.seq (.ops [⟨(some 29), .pure .move, [.t 2], none⟩,
          ⟨(some 30), .pure .lenL, [.t 29], none⟩,
          ⟨(some 31), .pure (.bin .gtr), [.t 30, .c (.int .i64 0)], none⟩,
          ⟨(some 32), .pure .move, [.t 31], none⟩,
          ⟨(some 33), .pure (.faddr 4), [.t 3], some (32, true)⟩,
          ⟨(some 34), .read (.load none), [.t 33], some (32, true)⟩,
          ⟨(some 35), .pure (.bin .lss), [.t 34, .c (.int .i64 0)], some (32, true)⟩,
          ⟨(some 36), .pure .move, [.t 35], some (32, true)⟩,
          ⟨(some 37), .pure .move, [.t 8], some (36, false)⟩,
          ⟨(some 38), .pure (.faddr 4), [.t 3], some (36, false)⟩,
          ⟨(some 39), .read (.load none), [.t 38], some (36, false)⟩,
          ⟨(some 40), .pure (.bin .lss), [.t 37, .t 39], some (36, false)⟩,
          ⟨(some 41), .pure .pick, [.t 36, .c (.bool true), .t 40], some (32, true)⟩,
          ⟨(some 42), .pure .pick, [.t 32, .t 41, .c (.bool false)], none⟩])
        (.cond (.t 42)
          .skip
          (.exit 2)))
        (.seq (.block 3
          (.seq (.ops [⟨(some 45), .pure .move, [.t 7], none⟩,
            ⟨(some 46), .pure .chk, [.t 45], none⟩,
            ⟨(some 47), .pure (.faddr 1), [.t 46], none⟩,
            ⟨(some 48), .read (.load none), [.t 47], none⟩,
            ⟨(some 49), .pure .lenL, [.t 48], none⟩,
            ⟨(some 9), .pure .move, [.t 49], none⟩])
          (.seq (.ops [⟨(some 50), .pure .move, [.t 7], none⟩,
            ⟨(some 51), .pure (.faddr 5), [.t 3], none⟩,
            ⟨(some 52), .read (.load none), [.t 51], none⟩,
            ⟨(some 53), .pure (.iaddrS 6), [.t 52, .c (.int .i64 0)], none⟩,
            ⟨(some 54), .read (.load (some 6)), [.t 53], none⟩,
            ⟨(some 55), .pure .move, [.t 1], none⟩,
            ⟨(some 56), .pure .move, [.t 2], none⟩,
            ⟨(some 57), .pcall 582, [.t 54, .t 55, .t 56], none⟩,
            ⟨(some 58), .call 614, [.t 50, .t 57], none⟩])
          (.ops [⟨(some 59), .pure .move, [.t 7], none⟩,
            ⟨(some 60), .pure .chk, [.t 59], none⟩,
            ⟨(some 61), .pure (.faddr 1), [.t 60], none⟩,
            ⟨(some 62), .read (.load none), [.t 61], none⟩,
            ⟨(some 63), .pure .move, [.t 9], none⟩,
            ⟨(some 64), .pure (.sliceL 1 true false false), [.t 62, .t 63], none⟩,
            ⟨(some 65), .eff (.append 1 8), [.c (.snil 1), .t 64], none⟩,
            ⟨(some 2), .pure .move, [.t 65], none⟩]))))
        (.ops [⟨(some 43), .pure .move, [.t 8], none⟩,
          ⟨(some 44), .pure (.bin .add), [.t 43, .c (.int .i64 1)], none⟩,
          ⟨(some 8), .pure .move, [.t 44], none⟩]))))))
    (.seq (.ops [⟨(some 66), .pure .move, [.t 7], none⟩,
      ⟨(some 67), .pure .chk, [.t 66], none⟩,
      ⟨(some 68), .pure (.faddr 1), [.t 67], none⟩,
      ⟨(some 69), .read (.load none), [.t 68], none⟩,
      ⟨(some 6), .pure .move, [.t 69], none⟩])
    .ret)))))) }
/-- datakit/formats.text -/
def ac617 : AFn :=
  { nt := 26, res := [.tmp 2], body :=
    (.seq (.ops [⟨(some 2), .pure .move, [.c (.str [])], none⟩])
    (.seq (.seq (.ops [⟨(some 3), .pure .move, [.t 0], none⟩])
    (.block 0
      (.seq (.ops [⟨(some 5), .pure (.bin .eql), [.t 3, .c (.int .i64 0)], none⟩,
        ⟨(some 4), .pure .move, [.t 5], none⟩])
      (.cond (.t 4)
        (.seq (.ops [⟨(some 2), .pure .move, [.c (.str [40, 91, 65, 45, 90, 93, 124, 91, 97, 45, 122, 93, 124, 91, 48, 45, 57, 93, 124, 92, 120, 50, 98, 124, 47, 41, 123, 52, 44, 52, 125, 42, 40, 40, 91, 65, 45, 90, 93, 124, 91, 97, 45, 122, 93, 124, 91, 48, 45, 57, 93, 124, 92, 120, 50, 98, 124, 47, 41, 123, 50, 44, 50, 125, 61, 61, 124, 40, 91, 65, 45, 90, 93, 124, 91, 97, 45, 122, 93, 124, 91, 48, 45, 57, 93, 124, 92, 120, 50, 98, 124, 47, 41, 123, 51, 44, 51, 125, 61, 41, 63])], none⟩])
        .ret)
        (.seq (.ops [⟨(some 7), .pure (.bin .eql), [.t 3, .c (.int .i64 1)], none⟩,
          ⟨(some 6), .pure .move, [.t 7], none⟩])
        (.cond (.t 6)
          (.seq (.ops [⟨(some 2), .pure .move, [.c (.str [91, 48, 45, 57, 93, 123, 52, 44, 52, 125, 45, 40, 48, 91, 49, 45, 57, 93, 124, 49, 91, 48, 45, 50, 93, 41, 45, 40, 48, 91, 49, 45, 57, 93, 124, 91, 49, 45, 50, 93, 91, 48, 45, 57, 93, 124, 51, 91, 48, 45, 49, 93, 41])], none⟩])
          .ret)
          (.seq (.ops [⟨(some 9), .pure (.bin .eql), [.t 3, .c (.int .i64 2)], none⟩,
            ⟨(some 8), .pure .move, [.t 9], none⟩])
          (.cond (.t 8)
            (.seq (.ops [⟨(some 2), .pure .move, [.c (.str [91, 48, 45, 57, 93, 123, 52, 44, 52, 125, 45, 40, 48, 91, 49, 45, 57, 93, 124, 49, 91, 48, 45, 50, 93, 41, 45, 40, 48, 91, 49, 45, 57, 93, 124, 91, 49, 45, 50, 93, 91, 48, 45, 57, 93, 124, 51, 91, 48, 45, 49, 93, 41, 84, 40, 91, 48, 45, 49, 93, 91, 48, 45, 57, 93, 124, 50, 91, 48, 45, 51, 93, 41, 58, 91, 48, 45, 53, 93, 91, 48, 45, 57, 93, 58, 91, 48, 45, 53, 93, 91, 48, 45, 57, 93, 40, 92, 120, 50, 101, 91, 48, 45, 57, 93, 123, 49, 44, 57, 125, 41, 63])], none⟩])
            .ret)
            (.seq (.ops [⟨(some 11), .pure (.bin .eql), [.t 3, .c (.int .i64 3)], none⟩,
              ⟨(some 10), .pure .move, [.t 11], none⟩])
            (.cond (.t 10)
              (.seq (.ops [⟨(some 2), .pure .move, [.c (.str [40, 91, 48, 45, 57, 93, 124, 91, 97, 45, 102, 93, 41, 123, 50, 44, 50, 125, 43])], none⟩])
              .ret)
              (.seq (.ops [⟨(some 13), .pure (.bin .eql), [.t 3, .c (.int .i64 4)], none⟩,
                ⟨(some 12), .pure .move, [.t 13], none⟩])
              (.cond (.t 12)
                (.seq (.ops [⟨(some 2), .pure .move, [.c (.str [91, 48, 45, 57, 93, 123, 52, 44, 52, 125, 45, 40, 48, 91, 49, 45, 57, 93, 124, 49, 91, 48, 45, 50, 93, 41, 45, 40, 48, 91, 49, 45, 57, 93, 124, 91, 49, 45, 50, 93, 91, 48, 45, 57, 93, 124, 51, 91, 48, 45, 49, 93, 41, 84, 40, 91, 48, 45, 49, 93, 91, 48, 45, 57, 93, 124, 50, 91, 48, 45, 51, 93, 41, 58, 91, 48, 45, 53, 93, 91, 48, 45, 57, 93, 58, 91, 48, 45, 53, 93, 91, 48, 45, 57, 93, 40, 92, 120, 50, 101, 91, 48, 45, 57, 93, 123, 49, 44, 57, 125, 41, 63, 40, 90, 124, 40, 92, 120, 50, 98, 124, 45, 41, 40, 91, 48, 45, 49, 93, 91, 48, 45, 57, 93, 124, 50, 91, 48, 45, 51, 93, 41, 58, 91, 48, 45, 53, 93, 91, 48, 45, 57, 93, 41])], none⟩])
                .ret)
                (.seq (.ops [⟨(some 15), .pure (.bin .eql), [.t 3, .c (.int .i64 5)], none⟩,
                  ⟨(some 14), .pure .move, [.t 15], none⟩])
                (.cond (.t 14)
                  (.seq (.ops [⟨(some 2), .pure .move, [.c (.str [48, 124, 45, 63, 91, 49, 45, 57, 93, 91, 48, 45, 57, 93, 42])], none⟩])
                  .ret)
                  (.seq (.ops [⟨(some 17), .pure (.bin .eql), [.t 3, .c (.int .i64 6)], none⟩,
                    ⟨(some 16), .pure .move, [.t 17], none⟩])
                  (.cond (.t 16)
                    (.seq (.ops [⟨(some 2), .pure .move, [.c (.str [40, 91, 48, 45, 57, 93, 124, 91, 49, 45, 57, 93, 91, 48, 45, 57, 93, 124, 49, 91, 48, 45, 57, 93, 91, 48, 45, 57, 93, 124, 50, 91, 48, 45, 52, 93, 91, 48, 45, 57, 93, 124, 50, 53, 91, 48, 45, 53, 93, 41, 40, 92, 120, 50, 101, 40, 91, 48, 45, 57, 93, 124, 91, 49, 45, 57, 93, 91, 48, 45, 57, 93, 124, 49, 91, 48, 45, 57, 93, 91, 48, 45, 57, 93, 124, 50, 91, 48, 45, 52, 93, 91, 48, 45, 57, 93, 124, 50, 53, 91, 48, 45, 53, 93, 41, 41, 123, 51, 44, 51, 125])], none⟩])
                    .ret)
                    (.seq (.ops [⟨(some 19), .pure (.bin .eql), [.t 3, .c (.int .i64 7)], none⟩,
                      ⟨(some 18), .pure .move, [.t 19], none⟩])
                    (.cond (.t 18)
                      (.seq (.ops [⟨(some 2), .pure .move, [.c (.str [40, 91, 65, 45, 90, 93, 124, 91, 97, 45, 122, 93, 124, 95, 41, 40, 91, 65, 45, 90, 93, 124, 91, 97, 45, 122, 93, 124, 91, 48, 45, 57, 93, 124, 95, 41, 42])], none⟩])
                      .ret)
                      (.seq (.ops [⟨(some 21), .pure (.bin .eql), [.t 3, .c (.int .i64 8)], none⟩,
                        ⟨(some 20), .pure .move, [.t 21], none⟩])
                      (.cond (.t 20)
                        (.seq (.ops [⟨(some 2), .pure .move, [.c (.str [45, 63, 40, 48, 124, 91, 49, 45, 57, 93, 91, 48, 45, 57, 93, 42, 41, 40, 92, 120, 50, 101, 91, 48, 45, 57, 93, 43, 41, 63, 40, 40, 101, 124, 69, 41, 40, 92, 120, 50, 98, 124, 45, 41, 63, 91, 48, 45, 57, 93, 43, 41, 63])], none⟩])
                        .ret)
                        (.seq (.ops [⟨(some 23), .pure (.bin .eql), [.t 3, .c (.int .i64 9)], none⟩,
                          ⟨(some 22), .pure .move, [.t 23], none⟩])
                        (.cond (.t 22)
                          (.seq (.ops [⟨(some 2), .pure .move, [.c (.str [40, 47, 40, 91, 65, 45, 90, 93, 124, 91, 97, 45, 122, 93, 124, 91, 48, 45, 57, 93, 124, 95, 124, 45, 124, 92, 120, 50, 101, 41, 42, 41, 43])], none⟩])
                          .ret)
                          (.seq (.ops [⟨(some 25), .pure (.bin .eql), [.t 3, .c (.int .i64 10)], none⟩,
                            ⟨(some 24), .pure .move, [.t 25], none⟩])
                          (.cond (.t 24)
                            (.seq (.ops [⟨(some 2), .pure .move, [.c (.str [40, 91, 48, 45, 49, 93, 91, 48, 45, 57, 93, 124, 50, 91, 48, 45, 51, 93, 41, 58, 91, 48, 45, 53, 93, 91, 48, 45, 57, 93, 58, 91, 48, 45, 53, 93, 91, 48, 45, 57, 93, 40, 92, 120, 50, 101, 91, 48, 45, 57, 93, 123, 49, 44, 57, 125, 41, 63])], none⟩])
                            .ret)
                            .skip))))))))))))))))))))))))
    (.seq (.ops [⟨(some 2), .pure .move, [.c (.str [40, 91, 48, 45, 57, 93, 124, 91, 97, 45, 102, 93, 41, 123, 56, 44, 56, 125, 45, 40, 91, 48, 45, 57, 93, 124, 91, 97, 45, 102, 93, 41, 123, 52, 44, 52, 125, 45, 40, 91, 48, 45, 57, 93, 124, 91, 97, 45, 102, 93, 41, 123, 52, 44, 52, 125, 45, 40, 91, 48, 45, 57, 93, 124, 91, 97, 45, 102, 93, 41, 123, 52, 44, 52, 125, 45, 40, 91, 48, 45, 57, 93, 124, 91, 97, 45, 102, 93, 41, 123, 49, 50, 44, 49, 50, 125])], none⟩])
    .ret))) }
/-- datakit/formats.Names -/
def ac624 : AFn :=
  { nt := 2, res := [.tmp 0], body :=
    (.seq (.ops [⟨(some 0), .pure .move, [.c (.snil 1)], none⟩])
    (.seq (.ops [⟨(some 1), .new (.buildSlice 1 [.str [], .str [], .str [], .str [], .str [], .str [], .str [], .str [], .str [], .str [], .str [], .str []] [0, 1, 2, 3, 4, 5, 6, 7, 8, 9, 10, 11]), [.c (.str [98, 97, 115, 101, 54, 52]), .c (.str [100, 97, 116, 101]), .c (.str [100, 97, 116, 101, 116, 105, 109, 101]), .c (.str [104, 101, 120]), .c (.str [105, 110, 115, 116, 97, 110, 116]), .c (.str [105, 110, 116, 101, 103, 101, 114]), .c (.str [105, 112, 118, 52]), .c (.str [110, 97, 109, 101]), .c (.str [110, 117, 109, 98, 101, 114]), .c (.str [112, 97, 116, 104]), .c (.str [116, 105, 109, 101]), .c (.str [117, 117, 105, 100])], none⟩,
      ⟨(some 0), .pure .move, [.t 1], none⟩])
    .ret)) }
/-- datakit/regex.byteText -/
def ac626 : AFn :=
  { nt := 33, res := [.tmp 2], body :=
    (.seq (.ops [⟨(some 2), .pure .move, [.c (.str [])], none⟩])
    (.seq (.seq (.ops [⟨(some 3), .pure .move, [.t 0], none⟩,
      ⟨(some 4), .pure (.bin .geq), [.t 3, .c (.int .i64 33)], none⟩,
      ⟨(some 5), .pure .move, [.t 4], none⟩,
      ⟨(some 6), .pure .move, [.t 0], some (5, true)⟩,
      ⟨(some 7), .pure (.bin .leq), [.t 6, .c (.int .i64 126)], some (5, true)⟩,
      ⟨(some 8), .pure .pick, [.t 5, .t 7, .c (.bool false)], none⟩,
      ⟨(some 9), .pure .move, [.t 8], none⟩,
      ⟨(some 10), .pure .move, [.t 0], some (9, true)⟩,
      ⟨(some 11), .pure (.conv .u8), [.t 10], some (9, true)⟩,
      ⟨(some 12), .pcall 162, [.c (.str [124, 38, 33, 42, 43, 63, 123, 125, 40, 41, 91, 93, 46, 92]), .t 11], some (9, true)⟩,
      ⟨(some 13), .pure (.bin .lss), [.t 12, .c (.int .i64 0)], some (9, true)⟩,
      ⟨(some 14), .pure .pick, [.t 9, .t 13, .c (.bool false)], none⟩])
    (.cond (.t 14)
      (.seq (.ops [⟨(some 15), .pure .move, [.t 0], none⟩,
        ⟨(some 16), .pure (.conv .u8), [.t 15], none⟩,
        ⟨(some 17), .new (.buildSlice 1 [.int .u8 0] [0]), [.t 16], none⟩,
        ⟨(some 18), .read .bytesStr, [.t 17], none⟩,
        ⟨(some 2), .pure .move, [.t 18], none⟩])
      .ret)
      .skip))
    (.seq (.ops [⟨(some 19), .pure .move, [.t 0], none⟩,
      ⟨(some 20), .pure (.bin .shr), [.t 19, .c (.int .u64 4)], none⟩,
      ⟨(some 21), .pure .move, [.t 0], none⟩,
      ⟨(some 22), .pure (.bin .shr), [.t 21, .c (.int .u64 4)], none⟩,
      ⟨(some 23), .pure (.bin .add), [.t 22, .c (.int .i64 1)], none⟩,
      ⟨(some 24), .pure (.sliceS true true), [.c (.str [48, 49, 50, 51, 52, 53, 54, 55, 56, 57, 97, 98, 99, 100, 101, 102]), .t 20, .t 23], none⟩,
      ⟨(some 25), .pure (.bin .add), [.c (.str [92, 120]), .t 24], none⟩,
      ⟨(some 26), .pure .move, [.t 0], none⟩,
      ⟨(some 27), .pure (.bin .and), [.t 26, .c (.int .i64 15)], none⟩,
      ⟨(some 28), .pure .move, [.t 0], none⟩,
      ⟨(some 29), .pure (.bin .and), [.t 28, .c (.int .i64 15)], none⟩,
      ⟨(some 30), .pure (.bin .add), [.t 29, .c (.int .i64 1)], none⟩,
      ⟨(some 31), .pure (.sliceS true true), [.c (.str [48, 49, 50, 51, 52, 53, 54, 55, 56, 57, 97, 98, 99, 100, 101, 102]), .t 27, .t 30], none⟩,
      ⟨(some 32), .pure (.bin .add), [.t 25, .t 31], none⟩,
      ⟨(some 2), .pure .move, [.t 32], none⟩])
    .ret))) }
/-- (*strings.Builder).WriteByte -/
def ac627 : AFn :=
  { nt := 17, res := [.tmp 4], body :=
    (.seq (.ops [⟨(some 4), .pure .move, [.c (.nili)], none⟩])
    (.seq (.ops [⟨(some 5), .pure .move, [.t 0], none⟩,
      ⟨(some 6), .bad, [], none⟩])
    (.seq (.ops [⟨(some 7), .pure .move, [.t 0], none⟩,
      ⟨(some 8), .pure .move, [.t 0], none⟩,
      ⟨(some 9), .pure .chk, [.t 8], none⟩,
      ⟨(some 10), .pure (.faddr 1), [.t 9], none⟩,
      ⟨(some 11), .read (.load none), [.t 10], none⟩,
      ⟨(some 12), .pure .move, [.t 1], none⟩,
      ⟨(some 13), .new (.buildSlice 1 [.int .u8 0] [0]), [.t 12], none⟩,
      ⟨(some 14), .eff (.append 1 1), [.t 11, .t 13], none⟩,
      ⟨(some 15), .pure .chk, [.t 7], none⟩,
      ⟨(some 16), .pure (.faddr 1), [.t 15], none⟩,
      ⟨none, .eff (.store 1), [.t 16, .t 14], none⟩])
    (.seq (.ops [⟨(some 4), .pure .move, [.c (.nili)], none⟩])
    .ret)))) }
/-- datakit/regex.arg -/
def ac628 : AFn :=
  { nt := 21, res := [], body :=
    (.seq (.ops [⟨(some 4), .new (.box 6), [.t 1], none⟩])
    (.seq (.seq (.ops [⟨(some 6), .pure (.faddr 0), [.t 4], none⟩,
      ⟨(some 7), .read (.load none), [.t 6], none⟩,
      ⟨(some 8), .pcall 639, [.t 7], none⟩,
      ⟨(some 9), .pure .move, [.t 2], none⟩,
      ⟨(some 10), .pure (.bin .geq), [.t 8, .t 9], none⟩])
    (.cond (.t 10)
      (.seq (.ops [⟨(some 11), .pure .move, [.t 0], none⟩,
        ⟨(some 12), .read (.load (some 6)), [.t 4], none⟩,
        ⟨(some 13), .pcall 607, [.t 11, .t 12], none⟩])
      .ret)
      .skip))
    (.seq (.ops [⟨(some 14), .pure .move, [.t 0], none⟩,
      ⟨(some 15), .call 627, [.t 14, .c (.int .u8 40)], none⟩])
    (.seq (.ops [⟨(some 16), .pure .move, [.t 0], none⟩,
      ⟨(some 17), .read (.load (some 6)), [.t 4], none⟩,
      ⟨(some 18), .pcall 607, [.t 16, .t 17], none⟩])
    (.ops [⟨(some 19), .pure .move, [.t 0], none⟩,
      ⟨(some 20), .call 627, [.t 19, .c (.int .u8 41)], none⟩]))))) }
/-- datakit/regex.bounds -/
def ac629 : AFn :=
  { nt := 41, res := [.tmp 4], body :=
    (.seq (.ops [⟨(some 4), .pure .move, [.c (.str [])], none⟩])
    (.seq (.block 0
      (.seq (.ops [⟨(some 6), .pure .move, [.t 0], none⟩,
        ⟨(some 7), .pure (.bin .eql), [.t 6, .c (.int .i64 0)], none⟩,
        ⟨(some 8), .pure .move, [.t 7], none⟩,
        ⟨(some 9), .pure .move, [.t 1], some (8, true)⟩,
        ⟨(some 10), .pure (.bin .eql), [.t 9, .c (.int .i64 (-1))], some (8, true)⟩,
        ⟨(some 11), .pure .pick, [.t 8, .t 10, .c (.bool false)], none⟩,
        ⟨(some 5), .pure .move, [.t 11], none⟩])
      (.cond (.t 5)
        (.seq (.ops [⟨(some 4), .pure .move, [.c (.str [42])], none⟩])
        .ret)
        (.seq (.ops [⟨(some 13), .pure .move, [.t 0], none⟩,
          ⟨(some 14), .pure (.bin .eql), [.t 13, .c (.int .i64 1)], none⟩,
          ⟨(some 15), .pure .move, [.t 14], none⟩,
          ⟨(some 16), .pure .move, [.t 1], some (15, true)⟩,
          ⟨(some 17), .pure (.bin .eql), [.t 16, .c (.int .i64 (-1))], some (15, true)⟩,
          ⟨(some 18), .pure .pick, [.t 15, .t 17, .c (.bool false)], none⟩,
          ⟨(some 12), .pure .move, [.t 18], none⟩])
        (.cond (.t 12)
          (.seq (.ops [⟨(some 4), .pure .move, [.c (.str [43])], none⟩])
          .ret)
          (.seq (.ops [⟨(some 20), .pure .move, [.t 0], none⟩,
            ⟨(some 21), .pure (.bin .eql), [.t 20, .c (.int .i64 0)], none⟩,
            ⟨(some 22), .pure .move, [.t 21], none⟩,
            ⟨(some 23), .pure .move, [.t 1], some (22, true)⟩,
            ⟨(some 24), .pure (.bin .eql), [.t 23, .c (.int .i64 1)], some (22, true)⟩,
            ⟨(some 25), .pure .pick, [.t 22, .t 24, .c (.bool false)], none⟩,
            ⟨(some 19), .pure .move, [.t 25], none⟩])
          (.cond (.t 19)
            (.seq (.ops [⟨(some 4), .pure .move, [.c (.str [63])], none⟩])
            .ret)
            (.seq (.ops [⟨(some 27), .pure .move, [.t 1], none⟩,
              ⟨(some 28), .pure (.bin .eql), [.t 27, .c (.int .i64 (-1))], none⟩,
              ⟨(some 26), .pure .move, [.t 28], none⟩])
            (.cond (.t 26)
              (.seq (.ops [⟨(some 29), .pure .move, [.t 0], none⟩,
                ⟨(some 30), .pcall 371, [.t 29], none⟩,
                ⟨(some 31), .pure (.bin .add), [.c (.str [123]), .t 30], none⟩,
                ⟨(some 32), .pure (.bin .add), [.t 31, .c (.str [44, 125])], none⟩,
                ⟨(some 4), .pure .move, [.t 32], none⟩])
              .ret)
              .skip)))))))))
    (.seq (.ops [⟨(some 33), .pure .move, [.t 0], none⟩,
      ⟨(some 34), .pcall 371, [.t 33], none⟩,
      ⟨(some 35), .pure (.bin .add), [.c (.str [123]), .t 34], none⟩,
      ⟨(some 36), .pure (.bin .add), [.t 35, .c (.str [44])], none⟩,
      ⟨(some 37), .pure .move, [.t 1], none⟩,
      ⟨(some 38), .pcall 371, [.t 37], none⟩,
      ⟨(some 39), .pure (.bin .add), [.t 36, .t 38], none⟩,
      ⟨(some 40), .pure (.bin .add), [.t 39, .c (.str [125])], none⟩,
      ⟨(some 4), .pure .move, [.t 40], none⟩])
    .ret))) }
/-- (*datakit/regex.parser).take -/
def ac630 : AFn :=
  { nt := 17, res := [.tmp 4], body :=
    (.seq (.ops [⟨(some 4), .pure .move, [.c (.bool false)], none⟩])
    (.seq (.seq (.ops [⟨(some 5), .pure .move, [.t 0], none⟩,
      ⟨(some 6), .call 633, [.t 5], none⟩,
      ⟨(some 7), .pure .move, [.t 1], none⟩,
      ⟨(some 8), .pure (.conv .i64), [.t 7], none⟩,
      ⟨(some 9), .pure (.bin .neq), [.t 6, .t 8], none⟩])
    (.cond (.t 9)
      (.seq (.ops [⟨(some 4), .pure .move, [.c (.bool false)], none⟩])
      .ret)
      .skip))
    (.seq (.ops [⟨(some 10), .pure .move, [.t 0], none⟩,
      ⟨(some 11), .pure .chk, [.t 10], none⟩,
      ⟨(some 12), .pure (.faddr 1), [.t 11], none⟩,
      ⟨(some 13), .read (.load none), [.t 12], none⟩,
      ⟨(some 14), .pure (.bin .add), [.t 13, .c (.int .i64 1)], none⟩,
      ⟨(some 15), .pure .chk, [.t 10], none⟩,
      ⟨(some 16), .pure (.faddr 1), [.t 15], none⟩,
      ⟨none, .eff (.store 1), [.t 16, .t 14], none⟩])
    (.seq (.ops [⟨(some 4), .pure .move, [.c (.bool true)], none⟩])
    .ret)))) }
/-- (*datakit/regex.parser).postfix -/
def ac631 : AFn :=
  { nt := 46, res := [.cell 2 (some 6)], body :=
    (.seq (.ops [⟨(some 2), .new (.new 6 [.agg [.int .i64 0, .int .i64 0, .int .i64 0, .int .i64 0, .int .i64 0, .snil 6]]), [], none⟩])
    (.seq (.ops [⟨(some 6), .pure .move, [.t 0], none⟩,
      ⟨(some 7), .call 640, [.t 6], none⟩,
      ⟨(some 3), .new (.new 6 [.agg [.int .i64 0, .int .i64 0, .int .i64 0, .int .i64 0, .int .i64 0, .snil 6]]), [], none⟩,
      ⟨none, .eff (.store 6), [.t 3, .t 7], none⟩])
    (.seq (.seq (.ops [⟨(some 4), .pure .move, [.c (.int .i64 0)], none⟩])
    (.block 0
      (.loop [0, 2, 3, 4]
        (.seq (.seq (.ops [⟨(some 8), .pure .move, [.t 4], none⟩,
          ⟨(some 9), .pure (.bin .leq), [.t 8, .c (.int .i64 48)], none⟩])
        (.cond (.t 9)
          .skip
          (.exit 0)))
        (.seq (.block 1
          (.seq (.ops [⟨(some 12), .read (.load (some 6)), [.t 3], none⟩,
            ⟨(some 13), .new (.buildSlice 6 [.agg [.int .i64 0, .int .i64 0, .int .i64 0, .int .i64 0, .int .i64 0, .snil 6]] [0]), [.t 12], none⟩,
            ⟨(some 14), .pure (.build [.int .i64 0, .int .i64 0, .int .i64 0, .int .i64 0, .int .i64 0, .snil 6] [(0, 1), (5, 1), (4, 1)]), [.c (.int .i64 5), .t 13, .c (.int .i64 (-1))], none⟩,
            ⟨(some 5), .new (.new 6 [.agg [.int .i64 0, .int .i64 0, .int .i64 0, .int .i64 0, .int .i64 0, .snil 6]]), [], none⟩,
            ⟨none, .eff (.store 6), [.t 5, .t 14], none⟩])
          (.seq (.block 2
            (.seq (.ops [⟨(some 17), .pure .move, [.t 0], none⟩,
              ⟨(some 18), .call 630, [.t 17, .c (.int .u8 42)], none⟩,
              ⟨(some 16), .pure .move, [.t 18], none⟩])
            (.cond (.t 16)
              .skip
              (.seq (.ops [⟨(some 20), .pure .move, [.t 0], none⟩,
                ⟨(some 21), .call 630, [.t 20, .c (.int .u8 43)], none⟩,
                ⟨(some 19), .pure .move, [.t 21], none⟩])
              (.cond (.t 19)
                (.ops [⟨(some 22), .pure (.faddr 3), [.t 5], none⟩,
                  ⟨none, .eff (.store 1), [.t 22, .c (.int .i64 1)], none⟩])
                (.seq (.ops [⟨(some 24), .pure .move, [.t 0], none⟩,
                  ⟨(some 25), .call 630, [.t 24, .c (.int .u8 63)], none⟩,
                  ⟨(some 23), .pure .move, [.t 25], none⟩])
                (.cond (.t 23)
                  (.ops [⟨(some 26), .pure (.faddr 4), [.t 5], none⟩,
                    ⟨none, .eff (.store 1), [.t 26, .c (.int .i64 1)], none⟩])
                  (.seq (.ops [⟨(some 28), .pure .move, [.t 0], none⟩,
                    ⟨(some 29), .call 630, [.t 28, .c (.int .u8 123)], none⟩,
                    ⟨(some 27), .pure .move, [.t 29], none⟩])
                  (.cond (.t 27)
                    (.seq (.ops [⟨(some 30), .pure .move, [.t 0], none⟩,
                      ⟨(some 31), .call 641, [.t 30], none⟩,
                      ⟨(some 32), .pure (.faddr 3), [.t 5], none⟩,
                      ⟨none, .eff (.store 1), [.t 32, .t 31], none⟩])
                    (.seq (.ops [⟨(some 33), .pure .move, [.t 0], none⟩,
                      ⟨(some 34), .call 642, [.t 33, .c (.int .u8 44)], none⟩])
                    (.seq (.seq (.ops [⟨(some 35), .pure .move, [.t 0], none⟩,
                      ⟨(some 36), .call 633, [.t 35], none⟩,
                      ⟨(some 37), .pure (.bin .neq), [.t 36, .c (.int .i64 125)], none⟩])
                    (.cond (.t 37)
                      (.ops [⟨(some 38), .pure .move, [.t 0], none⟩,
                        ⟨(some 39), .call 641, [.t 38], none⟩,
                        ⟨(some 40), .pure (.faddr 4), [.t 5], none⟩,
                        ⟨none, .eff (.store 1), [.t 40, .t 39], none⟩])
                      .skip))
                    (.ops [⟨(some 41), .pure .move, [.t 0], none⟩,
                      ⟨(some 42), .call 642, [.t 41, .c (.int .u8 125)], none⟩]))))
                    (.seq (.ops [⟨(some 15), .read (.load (some 6)), [.t 3], none⟩,
                      ⟨none, .eff (.store 6), [.t 2, .t 15], none⟩])
                    .ret))))))))))
          (.ops [⟨(some 43), .read (.load (some 6)), [.t 5], none⟩,
            ⟨none, .eff (.store 6), [.t 3, .t 43], none⟩]))))
        (.ops [⟨(some 10), .pure .move, [.t 4], none⟩,
          ⟨(some 11), .pure (.bin .add), [.t 10, .c (.int .i64 1)], none⟩,
          ⟨(some 4), .pure .move, [.t 11], none⟩]))))))
    (.ops [⟨(some 44), .pure (.build [] []), [], none⟩,
      ⟨(some 45), .pure (.mkifc 157), [.t 44], none⟩,
      ⟨none, .bad, [], none⟩])))) }
/-- (*datakit/regex.parser).enter -/
def ac632 : AFn :=
  { nt := 16, res := [], body :=
    (.seq (.ops [⟨(some 2), .pure .move, [.t 0], none⟩,
      ⟨(some 3), .pure .chk, [.t 2], none⟩,
      ⟨(some 4), .pure (.faddr 2), [.t 3], none⟩,
      ⟨(some 5), .read (.load none), [.t 4], none⟩,
      ⟨(some 6), .pure (.bin .add), [.t 5, .c (.int .i64 1)], none⟩,
      ⟨(some 7), .pure .chk, [.t 2], none⟩,
      ⟨(some 8), .pure (.faddr 2), [.t 7], none⟩,
      ⟨none, .eff (.store 1), [.t 8, .t 6], none⟩])
    (.seq (.ops [⟨(some 9), .pure .move, [.t 0], none⟩,
      ⟨(some 10), .pure .chk, [.t 9], none⟩,
      ⟨(some 11), .pure (.faddr 2), [.t 10], none⟩,
      ⟨(some 12), .read (.load none), [.t 11], none⟩,
      ⟨(some 13), .pure (.bin .gtr), [.t 12, .c (.int .i64 96)], none⟩])
    (.cond (.t 13)
      (.ops [⟨(some 14), .pure (.build [] []), [], none⟩,
        ⟨(some 15), .pure (.mkifc 157), [.t 14], none⟩,
        ⟨none, .bad, [], none⟩])
      .skip))) }
/-- (*datakit/regex.parser).peek -/
def ac633 : AFn :=
  { nt := 23, res := [.tmp 2], body :=
    (.seq (.ops [⟨(some 2), .pure .move, [.c (.int .i64 0)], none⟩])
    (.seq (.seq (.ops [⟨(some 3), .pure .move, [.t 0], none⟩,
      ⟨(some 4), .pure .chk, [.t 3], none⟩,
      ⟨(some 5), .pure (.faddr 1), [.t 4], none⟩,
      ⟨(some 6), .read (.load none), [.t 5], none⟩,
      ⟨(some 7), .pure .move, [.t 0], none⟩,
      ⟨(some 8), .pure .chk, [.t 7], none⟩,
      ⟨(some 9), .pure (.faddr 0), [.t 8], none⟩,
      ⟨(some 10), .read (.load none), [.t 9], none⟩,
      ⟨(some 11), .pure .lenS, [.t 10], none⟩,
      ⟨(some 12), .pure (.bin .lss), [.t 6, .t 11], none⟩])
    (.cond (.t 12)
      (.seq (.ops [⟨(some 13), .pure .move, [.t 0], none⟩,
        ⟨(some 14), .pure .chk, [.t 13], none⟩,
        ⟨(some 15), .pure (.faddr 0), [.t 14], none⟩,
        ⟨(some 16), .read (.load none), [.t 15], none⟩,
        ⟨(some 17), .pure .move, [.t 0], none⟩,
        ⟨(some 18), .pure .chk, [.t 17], none⟩,
        ⟨(some 19), .pure (.faddr 1), [.t 18], none⟩,
        ⟨(some 20), .read (.load none), [.t 19], none⟩,
        ⟨(some 21), .pure .idxStr, [.t 16, .t 20], none⟩,
        ⟨(some 22), .pure (.conv .i64), [.t 21], none⟩,
        ⟨(some 2), .pure .move, [.t 22], none⟩])
      .ret)
      .skip))
    (.seq (.ops [⟨(some 2), .pure .move, [.c (.int .i64 (-1))], none⟩])
    .ret))) }
/-- datakit/regex.row -/
def ac639 : AFn :=
  { nt := 14, res := [.tmp 2], body :=
    (.seq (.ops [⟨(some 2), .pure .move, [.c (.int .i64 0)], none⟩])
    (.seq (.seq (.ops [⟨(some 3), .pure .move, [.t 0], none⟩])
    (.block 0
      (.seq (.ops [⟨(some 5), .pure (.bin .eql), [.t 3, .c (.int .i64 4)], none⟩,
        ⟨(some 4), .pure .move, [.t 5], none⟩])
      (.cond (.t 4)
        (.seq (.ops [⟨(some 2), .pure .move, [.c (.int .i64 1)], none⟩])
        .ret)
        (.seq (.ops [⟨(some 7), .pure (.bin .eql), [.t 3, .c (.int .i64 6)], none⟩,
          ⟨(some 6), .pure .move, [.t 7], none⟩])
        (.cond (.t 6)
          (.seq (.ops [⟨(some 2), .pure .move, [.c (.int .i64 2)], none⟩])
          .ret)
          (.seq (.ops [⟨(some 9), .pure (.bin .eql), [.t 3, .c (.int .i64 3)], none⟩,
            ⟨(some 8), .pure .move, [.t 9], none⟩])
          (.cond (.t 8)
            (.seq (.ops [⟨(some 2), .pure .move, [.c (.int .i64 3)], none⟩])
            .ret)
            (.seq (.ops [⟨(some 11), .pure (.bin .eql), [.t 3, .c (.int .i64 7)], none⟩,
              ⟨(some 10), .pure .move, [.t 11], none⟩])
            (.cond (.t 10)
              (.seq (.ops [⟨(some 2), .pure .move, [.c (.int .i64 4)], none⟩])
              .ret)
              (.seq (.ops [⟨(some 13), .pure (.bin .eql), [.t 3, .c (.int .i64 5)], none⟩,
                ⟨(some 12), .pure .move, [.t 13], none⟩])
              (.cond (.t 12)
                (.seq (.ops [⟨(some 2), .pure .move, [.c (.int .i64 5)], none⟩])
                .ret)
                .skip))))))))))))
    (.seq (.ops [⟨(some 2), .pure .move, [.c (.int .i64 6)], none⟩])
    .ret))) }
end Ago
