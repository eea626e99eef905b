/- The abstract code of the functions, printed by program. -/
import Derived.Test.YtbaojellfboifaaGreatDoorCodeB
import Derived.Test.YtbaojellfboifaaGreatDoorMachH
set_option linter.unusedSimpArgs false
set_option linter.unusedVariables false
set_option maxRecDepth 100000
namespace Ago
/-- (*datakit/regex.parser).atom -/
def ac640 : AFn :=
  { nt := 52, res := [.cell 2 (some 6)], body :=
    (.seq (.ops [⟨(some 2), .new (.new 6 [.agg [.int .i64 0, .int .i64 0, .int .i64 0, .int .i64 0, .int .i64 0, .snil 6]]), [], none⟩])
    (.seq (.block 0
      (.seq (.ops [⟨(some 7), .pure .move, [.t 0], none⟩,
        ⟨(some 8), .call 630, [.t 7, .c (.int .u8 40)], none⟩,
        ⟨(some 6), .pure .move, [.t 8], none⟩])
      (.cond (.t 6)
        (.seq (.seq (.ops [⟨(some 9), .pure .move, [.t 0], none⟩,
          ⟨(some 10), .call 630, [.t 9, .c (.int .u8 41)], none⟩])
        (.cond (.t 10)
          (.seq (.ops [⟨(some 11), .pcall 644, [], none⟩,
            ⟨none, .eff (.store 6), [.t 2, .t 11], none⟩])
          .ret)
          .skip))
        (.seq (.ops [⟨(some 12), .pure .move, [.t 0], none⟩,
          ⟨(some 13), .call 632, [.t 12], none⟩])
        (.seq (.ops [⟨(some 14), .pure .move, [.t 0], none⟩,
          ⟨(some 15), .call 576, [.t 14, .c (.int .i64 1)], none⟩,
          ⟨(some 3), .new (.new 6 [.agg [.int .i64 0, .int .i64 0, .int .i64 0, .int .i64 0, .int .i64 0, .snil 6]]), [], none⟩,
          ⟨none, .eff (.store 6), [.t 3, .t 15], none⟩])
        (.seq (.ops [⟨(some 16), .pure .move, [.t 0], none⟩,
          ⟨(some 17), .call 642, [.t 16, .c (.int .u8 41)], none⟩])
        (.seq (.ops [⟨(some 18), .pure .move, [.t 0], none⟩,
          ⟨(some 19), .pure .chk, [.t 18], none⟩,
          ⟨(some 20), .pure (.faddr 2), [.t 19], none⟩,
          ⟨(some 21), .read (.load none), [.t 20], none⟩,
          ⟨(some 22), .pure (.bin .sub), [.t 21, .c (.int .i64 1)], none⟩,
          ⟨(some 23), .pure .chk, [.t 18], none⟩,
          ⟨(some 24), .pure (.faddr 2), [.t 23], none⟩,
          ⟨none, .eff (.store 1), [.t 24, .t 22], none⟩])
        (.seq (.ops [⟨(some 25), .read (.load (some 6)), [.t 3], none⟩,
          ⟨none, .eff (.store 6), [.t 2, .t 25], none⟩])
        .ret))))))
        (.seq (.ops [⟨(some 27), .pure .move, [.t 0], none⟩,
          ⟨(some 28), .call 630, [.t 27, .c (.int .u8 91)], none⟩,
          ⟨(some 26), .pure .move, [.t 28], none⟩])
        (.cond (.t 26)
          (.seq (.seq (.ops [⟨(some 29), .pure .move, [.t 0], none⟩,
            ⟨(some 30), .call 630, [.t 29, .c (.int .u8 93)], none⟩])
          (.cond (.t 30)
            (.seq (.ops [⟨(some 31), .pcall 645, [], none⟩,
              ⟨none, .eff (.store 6), [.t 2, .t 31], none⟩])
            .ret)
            .skip))
          (.seq (.ops [⟨(some 32), .pure .move, [.t 0], none⟩,
            ⟨(some 33), .call 646, [.t 32], none⟩,
            ⟨(some 34), .pure (.build [.int .i64 0, .int .i64 0, .int .i64 0, .int .i64 0, .int .i64 0, .snil 6] [(0, 1), (1, 1)]), [.c (.int .i64 2), .t 33], none⟩,
            ⟨(some 4), .new (.new 6 [.agg [.int .i64 0, .int .i64 0, .int .i64 0, .int .i64 0, .int .i64 0, .snil 6]]), [], none⟩,
            ⟨none, .eff (.store 6), [.t 4, .t 34], none⟩])
          (.seq (.ops [⟨(some 35), .pure .move, [.t 0], none⟩,
            ⟨(some 36), .call 642, [.t 35, .c (.int .u8 45)], none⟩])
          (.seq (.ops [⟨(some 37), .pure .move, [.t 0], none⟩,
            ⟨(some 38), .call 646, [.t 37], none⟩,
            ⟨(some 39), .pure (.faddr 2), [.t 4], none⟩,
            ⟨none, .eff (.store 1), [.t 39, .t 38], none⟩])
          (.seq (.ops [⟨(some 40), .pure .move, [.t 0], none⟩,
            ⟨(some 41), .call 642, [.t 40, .c (.int .u8 93)], none⟩])
          (.seq (.ops [⟨(some 42), .read (.load (some 6)), [.t 4], none⟩,
            ⟨none, .eff (.store 6), [.t 2, .t 42], none⟩])
          .ret))))))
          (.seq (.ops [⟨(some 44), .pure .move, [.t 0], none⟩,
            ⟨(some 45), .call 630, [.t 44, .c (.int .u8 46)], none⟩,
            ⟨(some 43), .pure .move, [.t 45], none⟩])
          (.cond (.t 43)
            (.seq (.ops [⟨(some 46), .pure (.build [.int .i64 0, .int .i64 0, .int .i64 0, .int .i64 0, .int .i64 0, .snil 6] [(0, 1), (2, 1)]), [.c (.int .i64 2), .c (.int .i64 255)], none⟩,
              ⟨none, .eff (.store 6), [.t 2, .t 46], none⟩])
            .ret)
            .skip)))))))
    (.seq (.ops [⟨(some 47), .pure .move, [.t 0], none⟩,
      ⟨(some 48), .call 646, [.t 47], none⟩,
      ⟨(some 5), .pure .move, [.t 48], none⟩])
    (.seq (.ops [⟨(some 49), .pure .move, [.t 5], none⟩,
      ⟨(some 50), .pure .move, [.t 5], none⟩,
      ⟨(some 51), .pure (.build [.int .i64 0, .int .i64 0, .int .i64 0, .int .i64 0, .int .i64 0, .snil 6] [(0, 1), (1, 1), (2, 1)]), [.c (.int .i64 2), .t 49, .t 50], none⟩,
      ⟨none, .eff (.store 6), [.t 2, .t 51], none⟩])
    .ret)))) }
/-- (*datakit/regex.parser).number -/
def ac641 : AFn :=
  { nt := 37, res := [.tmp 2], body :=
    (.seq (.ops [⟨(some 2), .pure .move, [.c (.int .i64 0)], none⟩])
    (.seq (.ops [⟨(some 3), .pure .move, [.c (.int .i64 0)], none⟩,
      ⟨(some 4), .pure .move, [.c (.int .i64 0)], none⟩])
    (.seq (.block 0
      (.loop [0, 3, 4]
        (.seq (.seq (.ops [⟨(some 5), .pure .move, [.t 4], none⟩,
          ⟨(some 6), .pure (.bin .lss), [.t 5, .c (.int .i64 3)], none⟩,
          ⟨(some 7), .pure .move, [.t 6], none⟩,
          ⟨(some 8), .pure .move, [.t 0], some (7, true)⟩,
          ⟨(some 9), .call 633, [.t 8], some (7, true)⟩,
          ⟨(some 10), .pure (.bin .geq), [.t 9, .c (.int .i64 48)], some (7, true)⟩,
          ⟨(some 11), .pure .pick, [.t 7, .t 10, .c (.bool false)], none⟩,
          ⟨(some 12), .pure .move, [.t 11], none⟩,
          ⟨(some 13), .pure .move, [.t 0], some (12, true)⟩,
          ⟨(some 14), .call 633, [.t 13], some (12, true)⟩,
          ⟨(some 15), .pure (.bin .leq), [.t 14, .c (.int .i64 57)], some (12, true)⟩,
          ⟨(some 16), .pure .pick, [.t 12, .t 15, .c (.bool false)], none⟩])
        (.cond (.t 16)
          .skip
          (.exit 0)))
        (.seq (.block 1
          (.seq (.ops [⟨(some 19), .pure .move, [.t 3], none⟩,
            ⟨(some 20), .pure (.bin .mul), [.c (.int .i64 10), .t 19], none⟩,
            ⟨(some 21), .pure .move, [.t 0], none⟩,
            ⟨(some 22), .call 633, [.t 21], none⟩,
            ⟨(some 23), .pure (.bin .add), [.t 20, .t 22], none⟩,
            ⟨(some 24), .pure (.bin .sub), [.t 23, .c (.int .i64 48)], none⟩,
            ⟨(some 3), .pure .move, [.t 24], none⟩])
          (.ops [⟨(some 25), .pure .move, [.t 0], none⟩,
            ⟨(some 26), .pure .chk, [.t 25], none⟩,
            ⟨(some 27), .pure (.faddr 1), [.t 26], none⟩,
            ⟨(some 28), .read (.load none), [.t 27], none⟩,
            ⟨(some 29), .pure (.bin .add), [.t 28, .c (.int .i64 1)], none⟩,
            ⟨(some 30), .pure .chk, [.t 25], none⟩,
            ⟨(some 31), .pure (.faddr 1), [.t 30], none⟩,
            ⟨none, .eff (.store 1), [.t 31, .t 29], none⟩])))
        (.ops [⟨(some 17), .pure .move, [.t 4], none⟩,
          ⟨(some 18), .pure (.bin .add), [.t 17, .c (.int .i64 1)], none⟩,
          ⟨(some 4), .pure .move, [.t 18], none⟩])))))
    (.seq (.seq (.ops [⟨(some 32), .pure .move, [.t 4], none⟩,
      ⟨(some 33), .pure (.bin .eql), [.t 32, .c (.int .i64 0)], none⟩])
    (.cond (.t 33)
      (.ops [⟨(some 34), .pure (.build [] []), [], none⟩,
        ⟨(some 35), .pure (.mkifc 157), [.t 34], none⟩,
        ⟨none, .bad, [], none⟩])
      .skip))
    (.seq (.ops [⟨(some 36), .pure .move, [.t 3], none⟩,
      ⟨(some 2), .pure .move, [.t 36], none⟩])
    .ret))))) }
/-- (*datakit/regex.parser).need -/
def ac642 : AFn :=
  { nt := 10, res := [], body :=
    (.seq (.ops [⟨(some 4), .pure .move, [.t 0], none⟩,
      ⟨(some 5), .pure .move, [.t 1], none⟩,
      ⟨(some 6), .call 630, [.t 4, .t 5], none⟩,
      ⟨(some 7), .pure (.un .not), [.t 6], none⟩])
    (.cond (.t 7)
      (.ops [⟨(some 8), .pure (.build [] []), [], none⟩,
        ⟨(some 9), .pure (.mkifc 157), [.t 8], none⟩,
        ⟨none, .bad, [], none⟩])
      .skip)) }
/-- datakit/regex.empty -/
def ac644 : AFn :=
  { nt := 2, res := [.cell 0 (some 6)], body :=
    (.seq (.ops [⟨(some 0), .new (.new 6 [.agg [.int .i64 0, .int .i64 0, .int .i64 0, .int .i64 0, .int .i64 0, .snil 6]]), [], none⟩])
    (.seq (.ops [⟨(some 1), .pure (.build [.int .i64 0, .int .i64 0, .int .i64 0, .int .i64 0, .int .i64 0, .snil 6] [(0, 1)]), [.c (.int .i64 1)], none⟩,
      ⟨none, .eff (.store 6), [.t 0, .t 1], none⟩])
    .ret)) }
/-- datakit/regex.none -/
def ac645 : AFn :=
  { nt := 2, res := [.cell 0 (some 6)], body :=
    (.seq (.ops [⟨(some 0), .new (.new 6 [.agg [.int .i64 0, .int .i64 0, .int .i64 0, .int .i64 0, .int .i64 0, .snil 6]]), [], none⟩])
    (.seq (.ops [⟨(some 1), .pure (.build [.int .i64 0, .int .i64 0, .int .i64 0, .int .i64 0, .int .i64 0, .snil 6] [(0, 1)]), [.c (.int .i64 0)], none⟩,
      ⟨none, .eff (.store 6), [.t 0, .t 1], none⟩])
    .ret)) }
/-- (*datakit/regex.parser).one -/
def ac646 : AFn :=
  { nt := 89, res := [.tmp 2], body :=
    (.seq (.ops [⟨(some 2), .pure .move, [.c (.int .i64 0)], none⟩])
    (.seq (.ops [⟨(some 6), .pure .move, [.t 0], none⟩,
      ⟨(some 7), .call 633, [.t 6], none⟩,
      ⟨(some 3), .pure .move, [.t 7], none⟩])
    (.seq (.seq (.ops [⟨(some 8), .pure .move, [.t 3], none⟩,
      ⟨(some 9), .pure (.bin .eql), [.t 8, .c (.int .i64 92)], none⟩,
      ⟨(some 10), .pure .move, [.t 9], none⟩,
      ⟨(some 11), .pure .move, [.t 0], some (10, true)⟩,
      ⟨(some 12), .pure .chk, [.t 11], some (10, true)⟩,
      ⟨(some 13), .pure (.faddr 1), [.t 12], some (10, true)⟩,
      ⟨(some 14), .read (.load none), [.t 13], some (10, true)⟩,
      ⟨(some 15), .pure (.bin .add), [.t 14, .c (.int .i64 4)], some (10, true)⟩,
      ⟨(some 16), .pure .move, [.t 0], some (10, true)⟩,
      ⟨(some 17), .pure .chk, [.t 16], some (10, true)⟩,
      ⟨(some 18), .pure (.faddr 0), [.t 17], some (10, true)⟩,
      ⟨(some 19), .read (.load none), [.t 18], some (10, true)⟩,
      ⟨(some 20), .pure .lenS, [.t 19], some (10, true)⟩,
      ⟨(some 21), .pure (.bin .leq), [.t 15, .t 20], some (10, true)⟩,
      ⟨(some 22), .pure .pick, [.t 10, .t 21, .c (.bool false)], none⟩,
      ⟨(some 23), .pure .move, [.t 22], none⟩,
      ⟨(some 24), .pure .move, [.t 0], some (23, true)⟩,
      ⟨(some 25), .pure .chk, [.t 24], some (23, true)⟩,
      ⟨(some 26), .pure (.faddr 0), [.t 25], some (23, true)⟩,
      ⟨(some 27), .read (.load none), [.t 26], some (23, true)⟩,
      ⟨(some 28), .pure .move, [.t 0], some (23, true)⟩,
      ⟨(some 29), .pure .chk, [.t 28], some (23, true)⟩,
      ⟨(some 30), .pure (.faddr 1), [.t 29], some (23, true)⟩,
      ⟨(some 31), .read (.load none), [.t 30], some (23, true)⟩,
      ⟨(some 32), .pure (.bin .add), [.t 31, .c (.int .i64 1)], some (23, true)⟩,
      ⟨(some 33), .pure .idxStr, [.t 27, .t 32], some (23, true)⟩,
      ⟨(some 34), .pure (.bin .eql), [.t 33, .c (.int .u8 120)], some (23, true)⟩,
      ⟨(some 35), .pure .pick, [.t 23, .t 34, .c (.bool false)], none⟩])
    (.cond (.t 35)
      (.seq (.ops [⟨(some 37), .pure .move, [.t 0], none⟩,
        ⟨(some 38), .pure .chk, [.t 37], none⟩,
        ⟨(some 39), .pure (.faddr 0), [.t 38], none⟩,
        ⟨(some 40), .read (.load none), [.t 39], none⟩,
        ⟨(some 41), .pure .move, [.t 0], none⟩,
        ⟨(some 42), .pure .chk, [.t 41], none⟩,
        ⟨(some 43), .pure (.faddr 1), [.t 42], none⟩,
        ⟨(some 44), .read (.load none), [.t 43], none⟩,
        ⟨(some 45), .pure (.bin .add), [.t 44, .c (.int .i64 2)], none⟩,
        ⟨(some 46), .pure .move, [.t 0], none⟩,
        ⟨(some 47), .pure .chk, [.t 46], none⟩,
        ⟨(some 48), .pure (.faddr 1), [.t 47], none⟩,
        ⟨(some 49), .read (.load none), [.t 48], none⟩,
        ⟨(some 50), .pure (.bin .add), [.t 49, .c (.int .i64 4)], none⟩,
        ⟨(some 51), .pure (.sliceS true true), [.t 40, .t 45, .t 50], none⟩,
        ⟨(some 52), .pcall 648, [.t 51, .c (.int .i64 16), .c (.int .i64 8)], none⟩,
        ⟨(some 36), .pure .move, [.t 52], none⟩,
        ⟨(some 53), .pure (.ext 0), [.t 36], none⟩,
        ⟨(some 54), .pure (.ext 1), [.t 36], none⟩,
        ⟨(some 4), .pure .move, [.t 53], none⟩,
        ⟨(some 5), .pure .move, [.t 54], none⟩])
      (.seq (.seq (.ops [⟨(some 55), .pure .move, [.t 5], none⟩,
        ⟨(some 56), .pure (.eqN 3 true), [.t 55, .c (.nili)], none⟩])
      (.cond (.t 56)
        (.ops [⟨(some 57), .pure (.build [] []), [], none⟩,
          ⟨(some 58), .pure (.mkifc 157), [.t 57], none⟩,
          ⟨none, .bad, [], none⟩])
        .skip))
      (.seq (.ops [⟨(some 59), .pure .move, [.t 0], none⟩,
        ⟨(some 60), .pure .chk, [.t 59], none⟩,
        ⟨(some 61), .pure (.faddr 1), [.t 60], none⟩,
        ⟨(some 62), .read (.load none), [.t 61], none⟩,
        ⟨(some 63), .pure (.bin .add), [.t 62, .c (.int .i64 4)], none⟩,
        ⟨(some 64), .pure .chk, [.t 59], none⟩,
        ⟨(some 65), .pure (.faddr 1), [.t 64], none⟩,
        ⟨none, .eff (.store 1), [.t 65, .t 63], none⟩])
      (.seq (.ops [⟨(some 66), .pure .move, [.t 4], none⟩,
        ⟨(some 67), .pure (.conv .i64), [.t 66], none⟩,
        ⟨(some 2), .pure .move, [.t 67], none⟩])
      .ret))))
      .skip))
    (.seq (.seq (.draw 1 [[⟨(some 68), .pure .move, [.t 3], none⟩,
      ⟨(some 69), .pure (.bin .lss), [.t 68, .c (.int .i64 0)], none⟩,
      ⟨(some 70), .pure .move, [.t 69], none⟩,
      ⟨(some 71), .pure .move, [.t 3], some (70, false)⟩,
      ⟨(some 72), .pcall 626, [.t 71], some (70, false)⟩,
      ⟨(some 73), .pure .move, [.t 3], some (70, false)⟩,
      ⟨(some 74), .pure (.conv .u8), [.t 73], some (70, false)⟩,
      ⟨(some 75), .newAt 0 (.buildSlice 1 [.int .u8 0] [0]), [.t 74], some (70, false)⟩,
      ⟨(some 76), .read .bytesStr, [.t 75], some (70, false)⟩,
      ⟨(some 77), .pure (.bin .neq), [.t 72, .t 76], some (70, false)⟩,
      ⟨(some 78), .pure .pick, [.t 70, .c (.bool true), .t 77], none⟩]])
    (.cond (.t 78)
      (.ops [⟨(some 79), .pure (.build [] []), [], none⟩,
        ⟨(some 80), .pure (.mkifc 157), [.t 79], none⟩,
        ⟨none, .bad, [], none⟩])
      .skip))
    (.seq (.ops [⟨(some 81), .pure .move, [.t 0], none⟩,
      ⟨(some 82), .pure .chk, [.t 81], none⟩,
      ⟨(some 83), .pure (.faddr 1), [.t 82], none⟩,
      ⟨(some 84), .read (.load none), [.t 83], none⟩,
      ⟨(some 85), .pure (.bin .add), [.t 84, .c (.int .i64 1)], none⟩,
      ⟨(some 86), .pure .chk, [.t 81], none⟩,
      ⟨(some 87), .pure (.faddr 1), [.t 86], none⟩,
      ⟨none, .eff (.store 1), [.t 87, .t 85], none⟩])
    (.seq (.ops [⟨(some 88), .pure .move, [.t 3], none⟩,
      ⟨(some 2), .pure .move, [.t 88], none⟩])
    .ret)))))) }
/-- strconv.ParseUint -/
def ac648 : AFn :=
  { nt := 26, res := [.tmp 6, .tmp 7], body :=
    (.seq (.ops [⟨(some 6), .pure .move, [.c (.int .u64 0)], none⟩,
      ⟨(some 7), .pure .move, [.c (.nili)], none⟩])
    (.seq (.ops [⟨(some 11), .pure .move, [.t 0], none⟩,
      ⟨(some 12), .pure .move, [.t 1], none⟩,
      ⟨(some 13), .pure .move, [.t 2], none⟩,
      ⟨(some 14), .pcall 649, [.t 11, .t 12, .t 13], none⟩,
      ⟨(some 10), .pure .move, [.t 14], none⟩,
      ⟨(some 15), .pure (.ext 0), [.t 10], none⟩,
      ⟨(some 16), .pure (.ext 1), [.t 10], none⟩,
      ⟨(some 8), .pure .move, [.t 15], none⟩,
      ⟨(some 9), .pure .move, [.t 16], none⟩])
    (.seq (.seq (.ops [⟨(some 17), .pure .move, [.t 9], none⟩,
      ⟨(some 18), .pure (.eqN 3 true), [.t 17, .c (.nili)], none⟩])
    (.cond (.t 18)
      (.seq (.ops [⟨(some 19), .pure .move, [.t 8], none⟩,
        ⟨(some 20), .pure .move, [.t 0], none⟩,
        ⟨(some 21), .pure .move, [.t 1], none⟩,
        ⟨(some 22), .pure .move, [.t 2], none⟩,
        ⟨(some 23), .pure .move, [.t 9], none⟩,
        ⟨(some 24), .pcall 650, [.c (.str [80, 97, 114, 115, 101, 85, 105, 110, 116]), .t 20, .t 21, .t 22, .t 23], none⟩,
        ⟨(some 6), .pure .move, [.t 19], none⟩,
        ⟨(some 7), .pure .move, [.t 24], none⟩])
      .ret)
      .skip))
    (.seq (.ops [⟨(some 25), .pure .move, [.t 8], none⟩,
      ⟨(some 6), .pure .move, [.t 25], none⟩,
      ⟨(some 7), .pure .move, [.c (.nili)], none⟩])
    .ret)))) }
/-- internal/strconv.ParseUint -/
def ac649 : AFn :=
  { nt := 172, res := [.tmp 6, .tmp 7], body :=
    (.seq (.ops [⟨(some 6), .pure .move, [.c (.int .u64 0)], none⟩,
      ⟨(some 7), .pure .move, [.c (.nili)], none⟩])
    (.seq (.seq (.ops [⟨(some 18), .pure .move, [.t 0], none⟩,
      ⟨(some 19), .pure (.bin .eql), [.t 18, .c (.str [])], none⟩])
    (.cond (.t 19)
      (.seq (.ops [⟨(some 20), .pure (.mkifc 226), [.c (.int .i64 2)], none⟩,
        ⟨(some 6), .pure .move, [.c (.int .u64 0)], none⟩,
        ⟨(some 7), .pure .move, [.t 20], none⟩])
      .ret)
      .skip))
    (.seq (.ops [⟨(some 21), .pure .move, [.t 1], none⟩,
      ⟨(some 22), .pure (.bin .eql), [.t 21, .c (.int .i64 0)], none⟩,
      ⟨(some 8), .pure .move, [.t 22], none⟩])
    (.seq (.ops [⟨(some 23), .pure .move, [.t 0], none⟩,
      ⟨(some 9), .pure .move, [.t 23], none⟩])
    (.seq (.block 0
      (.seq (.ops [⟨(some 26), .pure .move, [.t 1], none⟩,
        ⟨(some 27), .pure (.bin .leq), [.c (.int .i64 2), .t 26], none⟩,
        ⟨(some 28), .pure .move, [.t 27], none⟩,
        ⟨(some 29), .pure .move, [.t 1], some (28, true)⟩,
        ⟨(some 30), .pure (.bin .leq), [.t 29, .c (.int .i64 36)], some (28, true)⟩,
        ⟨(some 31), .pure .pick, [.t 28, .t 30, .c (.bool false)], none⟩,
        ⟨(some 25), .pure .move, [.t 31], none⟩])
      (.cond (.t 25)
        .skip
        (.seq (.ops [⟨(some 33), .pure .move, [.t 1], none⟩,
          ⟨(some 34), .pure (.bin .eql), [.t 33, .c (.int .i64 0)], none⟩,
          ⟨(some 32), .pure .move, [.t 34], none⟩])
        (.cond (.t 32)
          (.seq (.ops [⟨(some 1), .pure .move, [.c (.int .i64 10)], none⟩])
          (.seq (.ops [⟨(some 35), .pure .move, [.t 0], none⟩,
            ⟨(some 36), .pure .idxStr, [.t 35, .c (.int .i64 0)], none⟩,
            ⟨(some 37), .pure (.bin .eql), [.t 36, .c (.int .u8 48)], none⟩])
          (.cond (.t 37)
            (.block 1
              (.seq (.ops [⟨(some 41), .pure .move, [.t 0], none⟩,
                ⟨(some 42), .pure .lenS, [.t 41], none⟩,
                ⟨(some 43), .pure (.bin .geq), [.t 42, .c (.int .i64 3)], none⟩,
                ⟨(some 44), .pure .move, [.t 43], none⟩,
                ⟨(some 45), .pure .move, [.t 0], some (44, true)⟩,
                ⟨(some 46), .pure .idxStr, [.t 45, .c (.int .i64 1)], some (44, true)⟩,
                ⟨(some 47), .pcall 651, [.t 46], some (44, true)⟩,
                ⟨(some 48), .pure (.bin .eql), [.t 47, .c (.int .u8 98)], some (44, true)⟩,
                ⟨(some 49), .pure .pick, [.t 44, .t 48, .c (.bool false)], none⟩,
                ⟨(some 40), .pure .move, [.t 49], none⟩])
              (.cond (.t 40)
                (.seq (.ops [⟨(some 1), .pure .move, [.c (.int .i64 2)], none⟩])
                (.ops [⟨(some 50), .pure .move, [.t 0], none⟩,
                  ⟨(some 51), .pure (.sliceS true false), [.t 50, .c (.int .i64 2)], none⟩,
                  ⟨(some 0), .pure .move, [.t 51], none⟩]))
                (.seq (.ops [⟨(some 53), .pure .move, [.t 0], none⟩,
                  ⟨(some 54), .pure .lenS, [.t 53], none⟩,
                  ⟨(some 55), .pure (.bin .geq), [.t 54, .c (.int .i64 3)], none⟩,
                  ⟨(some 56), .pure .move, [.t 55], none⟩,
                  ⟨(some 57), .pure .move, [.t 0], some (56, true)⟩,
                  ⟨(some 58), .pure .idxStr, [.t 57, .c (.int .i64 1)], some (56, true)⟩,
                  ⟨(some 59), .pcall 651, [.t 58], some (56, true)⟩,
                  ⟨(some 60), .pure (.bin .eql), [.t 59, .c (.int .u8 111)], some (56, true)⟩,
                  ⟨(some 61), .pure .pick, [.t 56, .t 60, .c (.bool false)], none⟩,
                  ⟨(some 52), .pure .move, [.t 61], none⟩])
                (.cond (.t 52)
                  (.seq (.ops [⟨(some 1), .pure .move, [.c (.int .i64 8)], none⟩])
                  (.ops [⟨(some 62), .pure .move, [.t 0], none⟩,
                    ⟨(some 63), .pure (.sliceS true false), [.t 62, .c (.int .i64 2)], none⟩,
                    ⟨(some 0), .pure .move, [.t 63], none⟩]))
                  (.seq (.ops [⟨(some 65), .pure .move, [.t 0], none⟩,
                    ⟨(some 66), .pure .lenS, [.t 65], none⟩,
                    ⟨(some 67), .pure (.bin .geq), [.t 66, .c (.int .i64 3)], none⟩,
                    ⟨(some 68), .pure .move, [.t 67], none⟩,
                    ⟨(some 69), .pure .move, [.t 0], some (68, true)⟩,
                    ⟨(some 70), .pure .idxStr, [.t 69, .c (.int .i64 1)], some (68, true)⟩,
                    ⟨(some 71), .pcall 651, [.t 70], some (68, true)⟩,
                    ⟨(some 72), .pure (.bin .eql), [.t 71, .c (.int .u8 120)], some (68, true)⟩,
                    ⟨(some 73), .pure .pick, [.t 68, .t 72, .c (.bool false)], none⟩,
                    ⟨(some 64), .pure .move, [.t 73], none⟩])
                  (.cond (.t 64)
                    (.seq (.ops [⟨(some 1), .pure .move, [.c (.int .i64 16)], none⟩])
                    (.ops [⟨(some 74), .pure .move, [.t 0], none⟩,
                      ⟨(some 75), .pure (.sliceS true false), [.t 74, .c (.int .i64 2)], none⟩,
                      ⟨(some 0), .pure .move, [.t 75], none⟩]))
                    (.seq (.ops [⟨(some 1), .pure .move, [.c (.int .i64 8)], none⟩])
                    (.ops [⟨(some 38), .pure .move, [.t 0], none⟩,
                      ⟨(some 39), .pure (.sliceS true false), [.t 38, .c (.int .i64 1)], none⟩,
                      ⟨(some 0), .pure .move, [.t 39], none⟩])))))))))
            .skip)))
          (.seq (.ops [⟨(some 24), .pure (.mkifc 226), [.c (.int .i64 3)], none⟩,
            ⟨(some 6), .pure .move, [.c (.int .u64 0)], none⟩,
            ⟨(some 7), .pure .move, [.t 24], none⟩])
          .ret))))))
    (.seq (.seq (.ops [⟨(some 76), .pure .move, [.t 2], none⟩,
      ⟨(some 77), .pure (.bin .eql), [.t 76, .c (.int .i64 0)], none⟩])
    (.cond (.t 77)
      (.ops [⟨(some 2), .pure .move, [.c (.int .i64 64)], none⟩])
      (.seq (.ops [⟨(some 78), .pure .move, [.t 2], none⟩,
        ⟨(some 79), .pure (.bin .lss), [.t 78, .c (.int .i64 0)], none⟩,
        ⟨(some 80), .pure .move, [.t 79], none⟩,
        ⟨(some 81), .pure .move, [.t 2], some (80, false)⟩,
        ⟨(some 82), .pure (.bin .gtr), [.t 81, .c (.int .i64 64)], some (80, false)⟩,
        ⟨(some 83), .pure .pick, [.t 80, .c (.bool true), .t 82], none⟩])
      (.cond (.t 83)
        (.seq (.ops [⟨(some 84), .pure (.mkifc 226), [.c (.int .i64 4)], none⟩,
          ⟨(some 6), .pure .move, [.c (.int .u64 0)], none⟩,
          ⟨(some 7), .pure .move, [.t 84], none⟩])
        .ret)
        .skip))))
    (.seq (.ops [⟨(some 10), .pure .move, [.c (.int .u64 0)], none⟩])
    (.seq (.seq (.ops [⟨(some 85), .pure .move, [.t 1], none⟩])
    (.block 2
      (.seq (.ops [⟨(some 91), .pure (.bin .eql), [.t 85, .c (.int .i64 10)], none⟩,
        ⟨(some 90), .pure .move, [.t 91], none⟩])
      (.cond (.t 90)
        (.ops [⟨(some 10), .pure .move, [.c (.int .u64 1844674407370955162)], none⟩])
        (.seq (.ops [⟨(some 93), .pure (.bin .eql), [.t 85, .c (.int .i64 16)], none⟩,
          ⟨(some 92), .pure .move, [.t 93], none⟩])
        (.cond (.t 92)
          (.ops [⟨(some 10), .pure .move, [.c (.int .u64 1152921504606846976)], none⟩])
          (.ops [⟨(some 86), .pure .move, [.t 1], none⟩,
            ⟨(some 87), .pure (.conv .u64), [.t 86], none⟩,
            ⟨(some 88), .pure (.bin .quo), [.c (.int .u64 18446744073709551615), .t 87], none⟩,
            ⟨(some 89), .pure (.bin .add), [.t 88, .c (.int .u64 1)], none⟩,
            ⟨(some 10), .pure .move, [.t 89], none⟩])))))))
    (.seq (.ops [⟨(some 94), .pure .move, [.t 2], none⟩,
      ⟨(some 95), .pure (.conv .u64), [.t 94], none⟩,
      ⟨(some 96), .pure (.bin .shl), [.c (.int .u64 1), .t 95], none⟩,
      ⟨(some 97), .pure (.bin .sub), [.t 96, .c (.int .u64 1)], none⟩,
      ⟨(some 11), .pure .move, [.t 97], none⟩])
    (.seq (.ops [⟨(some 12), .pure .move, [.c (.bool false)], none⟩])
    (.seq (.ops [⟨(some 13), .pure .move, [.c (.int .u64 0)], none⟩])
    (.seq (.seq (.ops [⟨(some 98), .pure .move, [.t 0], none⟩,
      ⟨(some 99), .bad, [], none⟩,
      ⟨(some 100), .pure .lenL, [.t 99], none⟩,
      ⟨(some 101), .pure .move, [.c (.int .i64 0)], none⟩])
    (.block 3
      (.loop [1, 8, 9, 10, 11, 12, 13, 99, 100, 101]
        (.seq (.ops [⟨(some 102), .pure (.bin .lss), [.t 101, .t 100], none⟩])
        (.seq (.cond (.t 102)
          .skip
          (.exit 3))
        (.seq (.block 4
          (.seq (.ops [⟨(some 103), .pure (.iaddrS 1), [.t 99, .t 101], none⟩,
            ⟨(some 104), .read (.load none), [.t 103], none⟩,
            ⟨(some 15), .pure .move, [.t 104], none⟩])
          (.seq (.ops [⟨(some 16), .pure .move, [.c (.int .u8 0)], none⟩])
          (.seq (.block 5
            (.seq (.ops [⟨(some 107), .pure .move, [.t 15], none⟩,
              ⟨(some 108), .pure (.bin .eql), [.t 107, .c (.int .u8 95)], none⟩,
              ⟨(some 109), .pure .move, [.t 108], none⟩,
              ⟨(some 110), .pure .move, [.t 8], some (109, true)⟩,
              ⟨(some 111), .pure .pick, [.t 109, .t 110, .c (.bool false)], none⟩,
              ⟨(some 106), .pure .move, [.t 111], none⟩])
            (.cond (.t 106)
              (.seq (.ops [⟨(some 12), .pure .move, [.c (.bool true)], none⟩])
              (.exit 4))
              (.seq (.ops [⟨(some 113), .pure .move, [.t 15], none⟩,
                ⟨(some 114), .pure (.bin .leq), [.c (.int .u8 48), .t 113], none⟩,
                ⟨(some 115), .pure .move, [.t 114], none⟩,
                ⟨(some 116), .pure .move, [.t 15], some (115, true)⟩,
                ⟨(some 117), .pure (.bin .leq), [.t 116, .c (.int .u8 57)], some (115, true)⟩,
                ⟨(some 118), .pure .pick, [.t 115, .t 117, .c (.bool false)], none⟩,
                ⟨(some 112), .pure .move, [.t 118], none⟩])
              (.cond (.t 112)
                (.ops [⟨(some 119), .pure .move, [.t 15], none⟩,
                  ⟨(some 120), .pure (.bin .sub), [.t 119, .c (.int .u8 48)], none⟩,
                  ⟨(some 16), .pure .move, [.t 120], none⟩])
                (.seq (.ops [⟨(some 122), .pure .move, [.t 15], none⟩,
                  ⟨(some 123), .pcall 651, [.t 122], none⟩,
                  ⟨(some 124), .pure (.bin .leq), [.c (.int .u8 97), .t 123], none⟩,
                  ⟨(some 125), .pure .move, [.t 124], none⟩,
                  ⟨(some 126), .pure .move, [.t 15], some (125, true)⟩,
                  ⟨(some 127), .pcall 651, [.t 126], some (125, true)⟩,
                  ⟨(some 128), .pure (.bin .leq), [.t 127, .c (.int .u8 122)], some (125, true)⟩,
                  ⟨(some 129), .pure .pick, [.t 125, .t 128, .c (.bool false)], none⟩,
                  ⟨(some 121), .pure .move, [.t 129], none⟩])
                (.cond (.t 121)
                  (.ops [⟨(some 130), .pure .move, [.t 15], none⟩,
                    ⟨(some 131), .pcall 651, [.t 130], none⟩,
                    ⟨(some 132), .pure (.bin .sub), [.t 131, .c (.int .u8 97)], none⟩,
                    ⟨(some 133), .pure (.bin .add), [.t 132, .c (.int .u8 10)], none⟩,
                    ⟨(some 16), .pure .move, [.t 133], none⟩])
                  (.seq (.ops [⟨(some 105), .pure (.mkifc 226), [.c (.int .i64 2)], none⟩,
                    ⟨(some 6), .pure .move, [.c (.int .u64 0)], none⟩,
                    ⟨(some 7), .pure .move, [.t 105], none⟩])
                  .ret))))))))
          (.seq (.seq (.ops [⟨(some 134), .pure .move, [.t 16], none⟩,
            ⟨(some 135), .pure .move, [.t 1], none⟩,
            ⟨(some 136), .pure (.conv .u8), [.t 135], none⟩,
            ⟨(some 137), .pure (.bin .geq), [.t 134, .t 136], none⟩])
          (.cond (.t 137)
            (.seq (.ops [⟨(some 138), .pure (.mkifc 226), [.c (.int .i64 2)], none⟩,
              ⟨(some 6), .pure .move, [.c (.int .u64 0)], none⟩,
              ⟨(some 7), .pure .move, [.t 138], none⟩])
            .ret)
            .skip))
          (.seq (.seq (.ops [⟨(some 139), .pure .move, [.t 13], none⟩,
            ⟨(some 140), .pure .move, [.t 10], none⟩,
            ⟨(some 141), .pure (.bin .geq), [.t 139, .t 140], none⟩])
          (.cond (.t 141)
            (.seq (.ops [⟨(some 142), .pure .move, [.t 11], none⟩,
              ⟨(some 143), .pure (.mkifc 226), [.c (.int .i64 1)], none⟩,
              ⟨(some 6), .pure .move, [.t 142], none⟩,
              ⟨(some 7), .pure .move, [.t 143], none⟩])
            .ret)
            .skip))
          (.seq (.ops [⟨(some 144), .pure .move, [.t 13], none⟩,
            ⟨(some 145), .pure .move, [.t 1], none⟩,
            ⟨(some 146), .pure (.conv .u64), [.t 145], none⟩,
            ⟨(some 147), .pure (.bin .mul), [.t 144, .t 146], none⟩,
            ⟨(some 13), .pure .move, [.t 147], none⟩])
          (.seq (.ops [⟨(some 148), .pure .move, [.t 13], none⟩,
            ⟨(some 149), .pure .move, [.t 16], none⟩,
            ⟨(some 150), .pure (.conv .u64), [.t 149], none⟩,
            ⟨(some 151), .pure (.bin .add), [.t 148, .t 150], none⟩,
            ⟨(some 17), .pure .move, [.t 151], none⟩])
          (.seq (.seq (.ops [⟨(some 152), .pure .move, [.t 17], none⟩,
            ⟨(some 153), .pure .move, [.t 13], none⟩,
            ⟨(some 154), .pure (.bin .lss), [.t 152, .t 153], none⟩,
            ⟨(some 155), .pure .move, [.t 154], none⟩,
            ⟨(some 156), .pure .move, [.t 17], some (155, false)⟩,
            ⟨(some 157), .pure .move, [.t 11], some (155, false)⟩,
            ⟨(some 158), .pure (.bin .gtr), [.t 156, .t 157], some (155, false)⟩,
            ⟨(some 159), .pure .pick, [.t 155, .c (.bool true), .t 158], none⟩])
          (.cond (.t 159)
            (.seq (.ops [⟨(some 160), .pure .move, [.t 11], none⟩,
              ⟨(some 161), .pure (.mkifc 226), [.c (.int .i64 1)], none⟩,
              ⟨(some 6), .pure .move, [.t 160], none⟩,
              ⟨(some 7), .pure .move, [.t 161], none⟩])
            .ret)
            .skip))
          (.ops [⟨(some 162), .pure .move, [.t 17], none⟩,
            ⟨(some 13), .pure .move, [.t 162], none⟩]))))))))))
        (.ops [⟨(some 163), .pure (.bin .add), [.t 101, .c (.int .i64 1)], none⟩,
          ⟨(some 101), .pure .move, [.t 163], none⟩])))))))
    (.seq (.seq (.ops [⟨(some 164), .pure .move, [.t 12], none⟩,
      ⟨(some 165), .pure .move, [.t 164], none⟩,
      ⟨(some 166), .pure .move, [.t 9], some (165, true)⟩,
      ⟨(some 167), .pcall 652, [.t 166], some (165, true)⟩,
      ⟨(some 168), .pure (.un .not), [.t 167], some (165, true)⟩,
      ⟨(some 169), .pure .pick, [.t 165, .t 168, .c (.bool false)], none⟩])
    (.cond (.t 169)
      (.seq (.ops [⟨(some 170), .pure (.mkifc 226), [.c (.int .i64 2)], none⟩,
        ⟨(some 6), .pure .move, [.c (.int .u64 0)], none⟩,
        ⟨(some 7), .pure .move, [.t 170], none⟩])
      .ret)
      .skip))
    (.seq (.ops [⟨(some 171), .pure .move, [.t 13], none⟩,
      ⟨(some 6), .pure .move, [.t 171], none⟩,
      ⟨(some 7), .pure .move, [.c (.nili)], none⟩])
    .ret)))))))))))))) }
/-- strconv.toError -/
def ac650 : AFn :=
  { nt := 43, res := [.tmp 10], body :=
    (.seq (.ops [⟨(some 10), .pure .move, [.c (.nili)], none⟩])
    (.seq (.seq (.ops [⟨(some 11), .pure .move, [.t 4], none⟩])
    (.block 0
      (.seq (.ops [⟨(some 13), .pure (.mkifc 226), [.c (.int .i64 2)], none⟩,
        ⟨(some 14), .pure (.eqN 3 false), [.t 11, .t 13], none⟩,
        ⟨(some 12), .pure .move, [.t 14], none⟩])
      (.cond (.t 12)
        (.seq (.ops [⟨(some 15), .pure .move, [.t 0], none⟩,
          ⟨(some 16), .pure .move, [.t 1], none⟩,
          ⟨(some 17), .pcall 653, [.t 15, .t 16], none⟩,
          ⟨(some 18), .pure (.mkifc 228), [.t 17], none⟩,
          ⟨(some 10), .pure .move, [.t 18], none⟩])
        .ret)
        (.seq (.ops [⟨(some 20), .pure (.mkifc 226), [.c (.int .i64 1)], none⟩,
          ⟨(some 21), .pure (.eqN 3 false), [.t 11, .t 20], none⟩,
          ⟨(some 19), .pure .move, [.t 21], none⟩])
        (.cond (.t 19)
          (.seq (.ops [⟨(some 22), .pure .move, [.t 0], none⟩,
            ⟨(some 23), .pure .move, [.t 1], none⟩,
            ⟨(some 24), .pcall 654, [.t 22, .t 23], none⟩,
            ⟨(some 25), .pure (.mkifc 228), [.t 24], none⟩,
            ⟨(some 10), .pure .move, [.t 25], none⟩])
          .ret)
          (.seq (.ops [⟨(some 27), .pure (.mkifc 226), [.c (.int .i64 3)], none⟩,
            ⟨(some 28), .pure (.eqN 3 false), [.t 11, .t 27], none⟩,
            ⟨(some 26), .pure .move, [.t 28], none⟩])
          (.cond (.t 26)
            (.seq (.ops [⟨(some 29), .pure .move, [.t 0], none⟩,
              ⟨(some 30), .pure .move, [.t 1], none⟩,
              ⟨(some 31), .pure .move, [.t 2], none⟩,
              ⟨(some 32), .pcall 655, [.t 29, .t 30, .t 31], none⟩,
              ⟨(some 33), .pure (.mkifc 228), [.t 32], none⟩,
              ⟨(some 10), .pure .move, [.t 33], none⟩])
            .ret)
            (.seq (.ops [⟨(some 35), .pure (.mkifc 226), [.c (.int .i64 4)], none⟩,
              ⟨(some 36), .pure (.eqN 3 false), [.t 11, .t 35], none⟩,
              ⟨(some 34), .pure .move, [.t 36], none⟩])
            (.cond (.t 34)
              (.seq (.ops [⟨(some 37), .pure .move, [.t 0], none⟩,
                ⟨(some 38), .pure .move, [.t 1], none⟩,
                ⟨(some 39), .pure .move, [.t 3], none⟩,
                ⟨(some 40), .pcall 656, [.t 37, .t 38, .t 39], none⟩,
                ⟨(some 41), .pure (.mkifc 228), [.t 40], none⟩,
                ⟨(some 10), .pure .move, [.t 41], none⟩])
              .ret)
              .skip))))))))))
    (.seq (.ops [⟨(some 42), .pure .move, [.t 4], none⟩,
      ⟨(some 10), .pure .move, [.t 42], none⟩])
    .ret))) }
/-- internal/strconv.lower -/
def ac651 : AFn :=
  { nt := 5, res := [.tmp 2], body :=
    (.seq (.ops [⟨(some 2), .pure .move, [.c (.int .u8 0)], none⟩])
    (.seq (.ops [⟨(some 3), .pure .move, [.t 0], none⟩,
      ⟨(some 4), .pure (.bin .or), [.t 3, .c (.int .u8 32)], none⟩,
      ⟨(some 2), .pure .move, [.t 4], none⟩])
    .ret)) }
/-- internal/strconv.underscoreOK -/
def ac652 : AFn :=
  { nt := 94, res := [.tmp 2], body :=
    (.seq (.ops [⟨(some 2), .pure .move, [.c (.bool false)], none⟩])
    (.seq (.ops [⟨(some 3), .pure .move, [.c (.int .i32 94)], none⟩])
    (.seq (.ops [⟨(some 4), .pure .move, [.c (.int .i64 0)], none⟩])
    (.seq (.seq (.ops [⟨(some 6), .pure .move, [.t 0], none⟩,
      ⟨(some 7), .pure .lenS, [.t 6], none⟩,
      ⟨(some 8), .pure (.bin .geq), [.t 7, .c (.int .i64 1)], none⟩,
      ⟨(some 9), .pure .move, [.t 8], none⟩,
      ⟨(some 10), .pure .move, [.t 0], some (9, true)⟩,
      ⟨(some 11), .pure .idxStr, [.t 10, .c (.int .i64 0)], some (9, true)⟩,
      ⟨(some 12), .pure (.bin .eql), [.t 11, .c (.int .u8 45)], some (9, true)⟩,
      ⟨(some 13), .pure .move, [.t 12], some (9, true)⟩,
      ⟨(some 14), .pure .move, [.t 0], some (13, false)⟩,
      ⟨(some 15), .pure .idxStr, [.t 14, .c (.int .i64 0)], some (13, false)⟩,
      ⟨(some 16), .pure (.bin .eql), [.t 15, .c (.int .u8 43)], some (13, false)⟩,
      ⟨(some 17), .pure .pick, [.t 13, .c (.bool true), .t 16], some (9, true)⟩,
      ⟨(some 18), .pure .pick, [.t 9, .t 17, .c (.bool false)], none⟩])
    (.cond (.t 18)
      (.ops [⟨(some 19), .pure .move, [.t 0], none⟩,
        ⟨(some 20), .pure (.sliceS true false), [.t 19, .c (.int .i64 1)], none⟩,
        ⟨(some 0), .pure .move, [.t 20], none⟩])
      .skip))
    (.seq (.ops [⟨(some 5), .pure .move, [.c (.bool false)], none⟩])
    (.seq (.seq (.ops [⟨(some 21), .pure .move, [.t 0], none⟩,
      ⟨(some 22), .pure .lenS, [.t 21], none⟩,
      ⟨(some 23), .pure (.bin .geq), [.t 22, .c (.int .i64 2)], none⟩,
      ⟨(some 24), .pure .move, [.t 23], none⟩,
      ⟨(some 25), .pure .move, [.t 0], some (24, true)⟩,
      ⟨(some 26), .pure .idxStr, [.t 25, .c (.int .i64 0)], some (24, true)⟩,
      ⟨(some 27), .pure (.bin .eql), [.t 26, .c (.int .u8 48)], some (24, true)⟩,
      ⟨(some 28), .pure .pick, [.t 24, .t 27, .c (.bool false)], none⟩,
      ⟨(some 29), .pure .move, [.t 28], none⟩,
      ⟨(some 30), .pure .move, [.t 0], some (29, true)⟩,
      ⟨(some 31), .pure .idxStr, [.t 30, .c (.int .i64 1)], some (29, true)⟩,
      ⟨(some 32), .pcall 651, [.t 31], some (29, true)⟩,
      ⟨(some 33), .pure (.bin .eql), [.t 32, .c (.int .u8 98)], some (29, true)⟩,
      ⟨(some 34), .pure .move, [.t 33], some (29, true)⟩,
      ⟨(some 35), .pure .move, [.t 0], some (34, false)⟩,
      ⟨(some 36), .pure .idxStr, [.t 35, .c (.int .i64 1)], some (34, false)⟩,
      ⟨(some 37), .pcall 651, [.t 36], some (34, false)⟩,
      ⟨(some 38), .pure (.bin .eql), [.t 37, .c (.int .u8 111)], some (34, false)⟩,
      ⟨(some 39), .pure .pick, [.t 34, .c (.bool true), .t 38], some (29, true)⟩,
      ⟨(some 40), .pure .move, [.t 39], some (29, true)⟩,
      ⟨(some 41), .pure .move, [.t 0], some (40, false)⟩,
      ⟨(some 42), .pure .idxStr, [.t 41, .c (.int .i64 1)], some (40, false)⟩,
      ⟨(some 43), .pcall 651, [.t 42], some (40, false)⟩,
      ⟨(some 44), .pure (.bin .eql), [.t 43, .c (.int .u8 120)], some (40, false)⟩,
      ⟨(some 45), .pure .pick, [.t 40, .c (.bool true), .t 44], some (29, true)⟩,
      ⟨(some 46), .pure .pick, [.t 29, .t 45, .c (.bool false)], none⟩])
    (.cond (.t 46)
      (.seq (.ops [⟨(some 4), .pure .move, [.c (.int .i64 2)], none⟩])
      (.seq (.ops [⟨(some 3), .pure .move, [.c (.int .i32 48)], none⟩])
      (.ops [⟨(some 47), .pure .move, [.t 0], none⟩,
        ⟨(some 48), .pure .idxStr, [.t 47, .c (.int .i64 1)], none⟩,
        ⟨(some 49), .pcall 651, [.t 48], none⟩,
        ⟨(some 50), .pure (.bin .eql), [.t 49, .c (.int .u8 120)], none⟩,
        ⟨(some 5), .pure .move, [.t 50], none⟩])))
      .skip))
    (.seq (.block 0
      (.loop [0, 3, 4, 5]
        (.seq (.seq (.ops [⟨(some 51), .pure .move, [.t 4], none⟩,
          ⟨(some 52), .pure .move, [.t 0], none⟩,
          ⟨(some 53), .pure .lenS, [.t 52], none⟩,
          ⟨(some 54), .pure (.bin .lss), [.t 51, .t 53], none⟩])
        (.cond (.t 54)
          .skip
          (.exit 0)))
        (.seq (.block 1
          (.seq (.seq (.ops [⟨(some 57), .pure .move, [.t 0], none⟩,
            ⟨(some 58), .pure .move, [.t 4], none⟩,
            ⟨(some 59), .pure .idxStr, [.t 57, .t 58], none⟩,
            ⟨(some 60), .pure (.bin .leq), [.c (.int .u8 48), .t 59], none⟩,
            ⟨(some 61), .pure .move, [.t 60], none⟩,
            ⟨(some 62), .pure .move, [.t 0], some (61, true)⟩,
            ⟨(some 63), .pure .move, [.t 4], some (61, true)⟩,
            ⟨(some 64), .pure .idxStr, [.t 62, .t 63], some (61, true)⟩,
            ⟨(some 65), .pure (.bin .leq), [.t 64, .c (.int .u8 57)], some (61, true)⟩,
            ⟨(some 66), .pure .pick, [.t 61, .t 65, .c (.bool false)], none⟩,
            ⟨(some 67), .pure .move, [.t 66], none⟩,
            ⟨(some 68), .pure .move, [.t 5], some (67, false)⟩,
            ⟨(some 69), .pure .move, [.t 68], some (67, false)⟩,
            ⟨(some 70), .pure .move, [.t 0], some (69, true)⟩,
            ⟨(some 71), .pure .move, [.t 4], some (69, true)⟩,
            ⟨(some 72), .pure .idxStr, [.t 70, .t 71], some (69, true)⟩,
            ⟨(some 73), .pcall 651, [.t 72], some (69, true)⟩,
            ⟨(some 74), .pure (.bin .leq), [.c (.int .u8 97), .t 73], some (69, true)⟩,
            ⟨(some 75), .pure .pick, [.t 69, .t 74, .c (.bool false)], some (67, false)⟩,
            ⟨(some 76), .pure .move, [.t 75], some (67, false)⟩,
            ⟨(some 77), .pure .move, [.t 0], some (76, true)⟩,
            ⟨(some 78), .pure .move, [.t 4], some (76, true)⟩,
            ⟨(some 79), .pure .idxStr, [.t 77, .t 78], some (76, true)⟩,
            ⟨(some 80), .pcall 651, [.t 79], some (76, true)⟩,
            ⟨(some 81), .pure (.bin .leq), [.t 80, .c (.int .u8 102)], some (76, true)⟩,
            ⟨(some 82), .pure .pick, [.t 76, .t 81, .c (.bool false)], some (67, false)⟩,
            ⟨(some 83), .pure .pick, [.t 67, .c (.bool true), .t 82], none⟩])
          (.cond (.t 83)
            (.seq (.ops [⟨(some 3), .pure .move, [.c (.int .i32 48)], none⟩])
            (.exit 1))
            .skip))
          (.seq (.seq (.ops [⟨(some 84), .pure .move, [.t 0], none⟩,
            ⟨(some 85), .pure .move, [.t 4], none⟩,
            ⟨(some 86), .pure .idxStr, [.t 84, .t 85], none⟩,
            ⟨(some 87), .pure (.bin .eql), [.t 86, .c (.int .u8 95)], none⟩])
          (.cond (.t 87)
            (.seq (.seq (.ops [⟨(some 88), .pure .move, [.t 3], none⟩,
              ⟨(some 89), .pure (.bin .neq), [.t 88, .c (.int .i32 48)], none⟩])
            (.cond (.t 89)
              (.seq (.ops [⟨(some 2), .pure .move, [.c (.bool false)], none⟩])
              .ret)
              .skip))
            (.seq (.ops [⟨(some 3), .pure .move, [.c (.int .i32 95)], none⟩])
            (.exit 1)))
            .skip))
          (.seq (.seq (.ops [⟨(some 90), .pure .move, [.t 3], none⟩,
            ⟨(some 91), .pure (.bin .eql), [.t 90, .c (.int .i32 95)], none⟩])
          (.cond (.t 91)
            (.seq (.ops [⟨(some 2), .pure .move, [.c (.bool false)], none⟩])
            .ret)
            .skip))
          (.ops [⟨(some 3), .pure .move, [.c (.int .i32 33)], none⟩])))))
        (.ops [⟨(some 55), .pure .move, [.t 4], none⟩,
          ⟨(some 56), .pure (.bin .add), [.t 55, .c (.int .i64 1)], none⟩,
          ⟨(some 4), .pure .move, [.t 56], none⟩])))))
    (.seq (.ops [⟨(some 92), .pure .move, [.t 3], none⟩,
      ⟨(some 93), .pure (.bin .neq), [.t 92, .c (.int .i32 95)], none⟩,
      ⟨(some 2), .pure .move, [.t 93], none⟩])
    .ret)))))))) }
/-- strconv.syntaxError -/
def ac653 : AFn :=
  { nt := 11, res := [.tmp 4], body :=
    (.seq (.ops [⟨(some 4), .pure .move, [.c (.nilp)], none⟩])
    (.seq (.draw 1 [[⟨(some 5), .pure .move, [.t 0], none⟩,
      ⟨(some 6), .pure .move, [.t 1], none⟩,
      ⟨(some 7), .pcall 657, [.t 6], none⟩,
      ⟨(some 8), .bad, [], none⟩,
      ⟨(some 9), .pure (.build [.str [], .str [], .nili] [(0, 1), (1, 1), (2, 1)]), [.t 5, .t 7, .t 8], none⟩,
      ⟨(some 10), .newAt 0 (.box 3), [.t 9], none⟩,
      ⟨(some 4), .pure .move, [.t 10], none⟩],
      [⟨(some 5), .pure .move, [.t 0], none⟩,
      ⟨(some 6), .pure .move, [.t 1], none⟩,
      ⟨(some 8), .bad, [], none⟩,
      ⟨(some 7), .pcall 657, [.t 6], none⟩,
      ⟨(some 9), .pure (.build [.str [], .str [], .nili] [(0, 1), (1, 1), (2, 1)]), [.t 5, .t 7, .t 8], none⟩,
      ⟨(some 10), .newAt 0 (.box 3), [.t 9], none⟩,
      ⟨(some 4), .pure .move, [.t 10], none⟩]])
    .ret)) }
/-- strconv.rangeError -/
def ac654 : AFn :=
  { nt := 11, res := [.tmp 4], body :=
    (.seq (.ops [⟨(some 4), .pure .move, [.c (.nilp)], none⟩])
    (.seq (.draw 1 [[⟨(some 5), .pure .move, [.t 0], none⟩,
      ⟨(some 6), .pure .move, [.t 1], none⟩,
      ⟨(some 7), .pcall 657, [.t 6], none⟩,
      ⟨(some 8), .bad, [], none⟩,
      ⟨(some 9), .pure (.build [.str [], .str [], .nili] [(0, 1), (1, 1), (2, 1)]), [.t 5, .t 7, .t 8], none⟩,
      ⟨(some 10), .newAt 0 (.box 3), [.t 9], none⟩,
      ⟨(some 4), .pure .move, [.t 10], none⟩],
      [⟨(some 5), .pure .move, [.t 0], none⟩,
      ⟨(some 6), .pure .move, [.t 1], none⟩,
      ⟨(some 8), .bad, [], none⟩,
      ⟨(some 7), .pcall 657, [.t 6], none⟩,
      ⟨(some 9), .pure (.build [.str [], .str [], .nili] [(0, 1), (1, 1), (2, 1)]), [.t 5, .t 7, .t 8], none⟩,
      ⟨(some 10), .newAt 0 (.box 3), [.t 9], none⟩,
      ⟨(some 4), .pure .move, [.t 10], none⟩]])
    .ret)) }
/-- strconv.baseError -/
def ac655 : AFn :=
  { nt := 16, res := [.tmp 6], body :=
    (.seq (.ops [⟨(some 6), .pure .move, [.c (.nilp)], none⟩])
    (.seq (.ops [⟨(some 7), .pure .move, [.t 0], none⟩,
      ⟨(some 8), .pure .move, [.t 1], none⟩,
      ⟨(some 9), .pcall 657, [.t 8], none⟩,
      ⟨(some 10), .pure .move, [.t 2], none⟩,
      ⟨(some 11), .pcall 371, [.t 10], none⟩,
      ⟨(some 12), .pure (.bin .add), [.c (.str [105, 110, 118, 97, 108, 105, 100, 32, 98, 97, 115, 101, 32]), .t 11], none⟩,
      ⟨(some 13), .pcall 658, [.t 12], none⟩,
      ⟨(some 14), .pure (.build [.str [], .str [], .nili] [(0, 1), (1, 1), (2, 1)]), [.t 7, .t 9, .t 13], none⟩,
      ⟨(some 15), .new (.box 3), [.t 14], none⟩,
      ⟨(some 6), .pure .move, [.t 15], none⟩])
    .ret)) }
/-- strconv.bitSizeError -/
def ac656 : AFn :=
  { nt := 16, res := [.tmp 6], body :=
    (.seq (.ops [⟨(some 6), .pure .move, [.c (.nilp)], none⟩])
    (.seq (.ops [⟨(some 7), .pure .move, [.t 0], none⟩,
      ⟨(some 8), .pure .move, [.t 1], none⟩,
      ⟨(some 9), .pcall 657, [.t 8], none⟩,
      ⟨(some 10), .pure .move, [.t 2], none⟩,
      ⟨(some 11), .pcall 371, [.t 10], none⟩,
      ⟨(some 12), .pure (.bin .add), [.c (.str [105, 110, 118, 97, 108, 105, 100, 32, 98, 105, 116, 32, 115, 105, 122, 101, 32]), .t 11], none⟩,
      ⟨(some 13), .pcall 658, [.t 12], none⟩,
      ⟨(some 14), .pure (.build [.str [], .str [], .nili] [(0, 1), (1, 1), (2, 1)]), [.t 7, .t 9, .t 13], none⟩,
      ⟨(some 15), .new (.box 3), [.t 14], none⟩,
      ⟨(some 6), .pure .move, [.t 15], none⟩])
    .ret)) }
/-- internal/stringslite.Clone -/
def ac657 : AFn :=
  { nt := 18, res := [.tmp 2], body :=
    (.seq (.ops [⟨(some 2), .pure .move, [.c (.str [])], none⟩])
    (.seq (.seq (.ops [⟨(some 4), .pure .move, [.t 0], none⟩,
      ⟨(some 5), .pure .lenS, [.t 4], none⟩,
      ⟨(some 6), .pure (.bin .eql), [.t 5, .c (.int .i64 0)], none⟩])
    (.cond (.t 6)
      (.seq (.ops [⟨(some 2), .pure .move, [.c (.str [])], none⟩])
      .ret)
      .skip))
    (.seq (.ops [⟨(some 7), .pure .move, [.t 0], none⟩,
      ⟨(some 8), .pure .lenS, [.t 7], none⟩,
      ⟨(some 9), .new (.mkSlice 1 1 (.int .u8 0)), [.t 8, .t 8], none⟩,
      ⟨(some 3), .pure .move, [.t 9], none⟩])
    (.seq (.ops [⟨(some 10), .pure .move, [.t 3], none⟩,
      ⟨(some 11), .pure .move, [.t 0], none⟩,
      ⟨(some 12), .bad, [], none⟩])
    (.seq (.ops [⟨(some 13), .pure .move, [.t 3], none⟩,
      ⟨(some 14), .pure (.iaddrS 1), [.t 13, .c (.int .i64 0)], none⟩,
      ⟨(some 15), .pure .move, [.t 3], none⟩,
      ⟨(some 16), .pure .lenL, [.t 15], none⟩,
      ⟨(some 17), .bad, [], none⟩,
      ⟨(some 2), .pure .move, [.t 17], none⟩])
    .ret))))) }
/-- errors.New -/
def ac658 : AFn :=
  { nt := 7, res := [.tmp 2], body :=
    (.seq (.ops [⟨(some 2), .pure .move, [.c (.nili)], none⟩])
    (.seq (.ops [⟨(some 3), .pure .move, [.t 0], none⟩,
      ⟨(some 4), .pure (.build [.str []] [(0, 1)]), [.t 3], none⟩,
      ⟨(some 5), .new (.box 1), [.t 4], none⟩,
      ⟨(some 6), .pure (.mkifc 239), [.t 5], none⟩,
      ⟨(some 2), .pure .move, [.t 6], none⟩])
    .ret)) }
def codeS : Nat → Option AFn
  | 26 => some ac26
  | 45 => some ac45
  | 46 => some ac46
  | 61 => some ac61
  | 63 => some ac63
  | 73 => some ac73
  | 84 => some ac84
  | 90 => some ac90
  | 94 => some ac94
  | 95 => some ac95
  | 96 => some ac96
  | 126 => some ac126
  | 133 => some ac133
  | 139 => some ac139
  | 140 => some ac140
  | 141 => some ac141
  | 142 => some ac142
  | 148 => some ac148
  | 149 => some ac149
  | 150 => some ac150
  | 151 => some ac151
  | 155 => some ac155
  | 158 => some ac158
  | 162 => some ac162
  | 167 => some ac167
  | 229 => some ac229
  | 235 => some ac235
  | 239 => some ac239
  | 250 => some ac250
  | 251 => some ac251
  | 254 => some ac254
  | 257 => some ac257
  | 262 => some ac262
  | 263 => some ac263
  | 264 => some ac264
  | 265 => some ac265
  | 266 => some ac266
  | 267 => some ac267
  | 268 => some ac268
  | 269 => some ac269
  | 270 => some ac270
  | 273 => some ac273
  | 274 => some ac274
  | 275 => some ac275
  | 285 => some ac285
  | 286 => some ac286
  | 287 => some ac287
  | 291 => some ac291
  | 292 => some ac292
  | 293 => some ac293
  | 295 => some ac295
  | 296 => some ac296
  | 297 => some ac297
  | 298 => some ac298
  | 299 => some ac299
  | 300 => some ac300
  | 301 => some ac301
  | 302 => some ac302
  | 303 => some ac303
  | 304 => some ac304
  | 306 => some ac306
  | 307 => some ac307
  | 358 => some ac358
  | 371 => some ac371
  | 377 => some ac377
  | 378 => some ac378
  | 395 => some ac395
  | 396 => some ac396
  | 404 => some ac404
  | 419 => some ac419
  | 420 => some ac420
  | 421 => some ac421
  | 422 => some ac422
  | 428 => some ac428
  | 429 => some ac429
  | 430 => some ac430
  | 431 => some ac431
  | 434 => some ac434
  | 435 => some ac435
  | 450 => some ac450
  | 454 => some ac454
  | 457 => some ac457
  | 459 => some ac459
  | 469 => some ac469
  | 470 => some ac470
  | 472 => some ac472
  | 477 => some ac477
  | 478 => some ac478
  | 481 => some ac481
  | 485 => some ac485
  | 486 => some ac486
  | 490 => some ac490
  | 491 => some ac491
  | 502 => some ac502
  | 503 => some ac503
  | 504 => some ac504
  | 505 => some ac505
  | 509 => some ac509
  | 513 => some ac513
  | 514 => some ac514
  | 517 => some ac517
  | 538 => some ac538
  | 548 => some ac548
  | 549 => some ac549
  | 550 => some ac550
  | 552 => some ac552
  | 553 => some ac553
  | 554 => some ac554
  | 555 => some ac555
  | 562 => some ac562
  | 563 => some ac563
  | 574 => some ac574
  | 575 => some ac575
  | 576 => some ac576
  | 579 => some ac579
  | 580 => some ac580
  | 581 => some ac581
  | 582 => some ac582
  | 583 => some ac583
  | 597 => some ac597
  | 598 => some ac598
  | 607 => some ac607
  | 608 => some ac608
  | 609 => some ac609
  | 610 => some ac610
  | 611 => some ac611
  | 612 => some ac612
  | 613 => some ac613
  | 614 => some ac614
  | 615 => some ac615
  | 616 => some ac616
  | 617 => some ac617
  | 624 => some ac624
  | 626 => some ac626
  | 627 => some ac627
  | 628 => some ac628
  | 629 => some ac629
  | 630 => some ac630
  | 631 => some ac631
  | 632 => some ac632
  | 633 => some ac633
  | 639 => some ac639
  | 640 => some ac640
  | 641 => some ac641
  | 642 => some ac642
  | 644 => some ac644
  | 645 => some ac645
  | 646 => some ac646
  | 648 => some ac648
  | 649 => some ac649
  | 650 => some ac650
  | 651 => some ac651
  | 652 => some ac652
  | 653 => some ac653
  | 654 => some ac654
  | 655 => some ac655
  | 656 => some ac656
  | 657 => some ac657
  | 658 => some ac658
  | _ => none
def clRS : Nat → Option (Nat × Nat)
  | 216 => some (11, 104)
  | 518 => some (13, 168)
  | 519 => some (17, 232)
  | 520 => some (15, 208)
  | 566 => some (6, 64)
  | 214 => some (1, 16)
  | 130 => some (14, 184)
  | _ => none
def clPS : Nat → Option (Nat × Nat)
  | 62 => some (1, 1)
  | _ => none
def csQ (f : Nat) : Bool := f == 272
def lnQ (f : Nat) : Bool := f == 551
def ssQ (f : Nat) : Bool := f == 510
def CS : Ctx := extCtx (mkCtx codeS clRS clPS) csQ lnQ ssQ
end Ago
