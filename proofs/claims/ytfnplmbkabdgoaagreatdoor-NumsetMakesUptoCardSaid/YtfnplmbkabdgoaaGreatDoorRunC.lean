/- Sets of one part, of points; the law NumsetMakes. -/
import Derived.Test.YtfnplmbkabdgoaaGreatDoorRunB
set_option linter.unusedSimpArgs false
set_option linter.unusedVariables false
set_option maxRecDepth 100000
set_option maxHeartbeats 4000000
namespace Ago
open Go (IntKind)
def encNR (r : List Prt × Int) : AV := .tup [encNS r.1, .int .i64 r.2]
def ofM (p : Prt) : List Prt × Int := if prtOk p = true then ([p], 0) else ([], 1)
theorem OfI_run (lo hi : Bnd) (sort : Int) (h1 : lo.num.digits.length < 2 ^ 31) (h2 : hi.num.digits.length < 2 ^ 31) : PRun CN 679 [encBnd lo, encBnd hi, .int .i64 sort] (encNR (ofM ⟨lo, hi, sort⟩)) := by
  have hr := prtI_run ⟨lo, hi, sort⟩ h1 h2
  refine prun_of ac679 rfl ?_
  unfold ofM encNR encNS
  cases hb : prtOk ⟨lo, hi, sort⟩ <;> rw [hb] at hr
  · try simp only [Bool.false_eq_true, if_false]
    simp only [encBnd, encPrt, List.map_nil] at *
    (repeat' first | simp (disch := omega) only [go_sem, ac679, enter] | refine pure_of _ (hr) ?_ | (refine spl (fun h => ?_) (fun h => ?_) <;> try simp (disch := omega) only [go_sem, ac679, enter , h]) | fail)
  · try simp only [if_true]
    simp only [encBnd, encPrt, List.map_cons, List.map_nil] at *
    (repeat' first | simp (disch := omega) only [go_sem, ac679, enter] | refine pure_of _ (hr) ?_ | (refine spl (fun h => ?_) (fun h => ?_) <;> try simp (disch := omega) only [go_sem, ac679, enter , h]) | fail)
    all_goals rfl
theorem Of_run (lo hi : Bnd) (sort : Int) (h1 : lo.num.digits.length < 2 ^ 31) (h2 : hi.num.digits.length < 2 ^ 31) : PRun CN 680 [encBnd lo, encBnd hi, .int .i64 sort] (encNR (ofM ⟨lo, hi, sort⟩)) := by
  have hr := prt_run ⟨lo, hi, sort⟩ h1 h2
  refine prun_of ac680 rfl ?_
  unfold ofM encNR encNS
  cases hb : prtOk ⟨lo, hi, sort⟩ <;> rw [hb] at hr
  · try simp only [Bool.false_eq_true, if_false]
    simp only [encBnd, encPrt, List.map_nil] at *
    (repeat' first | simp (disch := omega) only [go_sem, ac680, enter] | refine pure_of _ (hr) ?_ | (refine spl (fun h => ?_) (fun h => ?_) <;> try simp (disch := omega) only [go_sem, ac680, enter , h]) | fail)
  · try simp only [if_true]
    simp only [encBnd, encPrt, List.map_cons, List.map_nil] at *
    (repeat' first | simp (disch := omega) only [go_sem, ac680, enter] | refine pure_of _ (hr) ?_ | (refine spl (fun h => ?_) (fun h => ?_) <;> try simp (disch := omega) only [go_sem, ac680, enter , h]) | fail)
    all_goals rfl
def allPrt : Prt := ⟨⟨false, ⟨false, [], 0⟩, false⟩, ⟨false, ⟨false, [], 0⟩, false⟩, 0⟩
theorem AllI_run : PRun CN 683 [] (encNS [allPrt]) := by
  refine prun_of ac683 rfl ?_
  (repeat' first | simp (disch := omega) only [go_sem, ac683, enter] | (refine spl (fun h => ?_) (fun h => ?_) <;> try simp (disch := omega) only [go_sem, ac683, enter, h]) | fail)
  all_goals rfl
theorem All_run : PRun CN 684 [] (encNS [allPrt]) := by
  refine prun_of ac684 rfl ?_
  (repeat' first | simp (disch := omega) only [go_sem, ac684, enter] | (refine spl (fun h => ?_) (fun h => ?_) <;> try simp (disch := omega) only [go_sem, ac684, enter, h]) | fail)
  all_goals rfl
theorem NoneI_run : PRun CN 685 [] (encNS []) := by
  refine prun_of ac685 rfl ?_
  (repeat' first | simp (disch := omega) only [go_sem, ac685, enter] | (refine spl (fun h => ?_) (fun h => ?_) <;> try simp (disch := omega) only [go_sem, ac685, enter, h]) | fail)
  all_goals rfl
theorem None_run : PRun CN 686 [] (encNS []) := by
  refine prun_of ac686 rfl ?_
  (repeat' first | simp (disch := omega) only [go_sem, ac686, enter] | (refine spl (fun h => ?_) (fun h => ?_) <;> try simp (disch := omega) only [go_sem, ac686, enter, h]) | fail)
  all_goals rfl
theorem same_self (l : List Prt) (hl : l.length < 2 ^ 31) : PRun CN 522 [encNS l, encNS l] (.bool true) := by
  refine prun_of ac522 rfl ?_
  unfold encNS
  (repeat' first | simp (disch := omega) only [go_sem, ac522, enter, List.length_map] | (refine spl (fun h => ?_) (fun h => ?_) <;> try simp (disch := omega) only [go_sem, ac522, enter, List.length_map, h]) | fail)
  refine loop_of (α := Nat) (fun k => { tmps := slots 31 [(2, .ptr 1 0 0 0), (3, .ptr 1 1 0 0), (5, .int .i64 k)], heap := [.row 1 [.agg [.tsl 11 (l.map encPrt)]] false true 0, .row 1 [.agg [.tsl 11 (l.map encPrt)]] false true 1], base := 0 }) (fun k => k ≤ l.length) (fun k => l.length - k) 0 rfl (Nat.zero_le _) ?_
  rintro k hk
  by_cases hlt : k < l.length
  · obtain ⟨p, hp⟩ := get_some hlt
    have hp2 := map_get (g := encPrt) hp
    simp only [encPrt] at hp2
    (repeat' first | simp (disch := omega) only [go_sem, hp2, List.length_map] | (refine spl (fun h => ?_) (fun h => ?_) <;> try simp (disch := omega) only [go_sem, hp2, List.length_map, h]) | fail)
    all_goals try omega
    exact ⟨k + 1, rfl, hlt, by omega⟩
  · (repeat' first | simp (disch := omega) only [go_sem, List.length_map] | (refine spl (fun h => ?_) (fun h => ?_) <;> try simp (disch := omega) only [go_sem, List.length_map, h]) | fail)
    all_goals omega
def ptOf (d : Dec) : Prt := ⟨⟨true, d, false⟩, ⟨true, d, false⟩, 0⟩
def ptsM (l : List Dec) : List Prt × Int := if l.all decOk = true then (if l.length ≤ 256 then (l.map ptOf, 0) else ([], 32)) else ([], 1)

def ptCells (d : Dec) : AV := .agg [.bool true, .bool d.neg, .str d.digits, .int .i64 d.exp, .bool false, .bool true, .bool d.neg, .str d.digits, .int .i64 d.exp, .bool false, .int .i64 0]
theorem ptCells_eq (l : List Dec) : l.map ptCells = (l.map ptOf).map encPrt := by
  rw [List.map_map]
  rfl
theorem PointsI_run (l : List Dec) (hl : l.length < 2 ^ 24) (hs : ∀ d, d ∈ l → d.digits.length < 2 ^ 31) : PRun CN 681 [.tsl 3 (l.map encDec)] (encNR (ptsM l)) := by
  have hd : ∀ d, d ∈ l → PRun CN 140 [encDec d] (.bool (decOk d)) := fun d h => upN (decOkI_run d (hs d h))
  refine prun_of ac681 rfl ?_
  unfold ptsM encNR encNS
  (repeat' first | simp (disch := omega) only [go_sem, ac681, enter, List.length_map] | (refine spl (fun h => ?_) (fun h => ?_) <;> try simp (disch := omega) only [go_sem, ac681, enter, List.length_map, h]) | fail)
  refine loop_of (α := Nat × List AV) (fun a => { tmps := slots 34 [(0, .tsl 3 (l.map encDec)), (2, .ptr 1 0 0 0), (4, .ptr 1 1 0 0), (8, .tsl 3 (l.map encDec)), (9, .int .i64 l.length), (10, .int .i64 a.1)], heap := [.row 1 [.agg [.snil 11]] false true 0, .row 1 [.agg [outSl 11 2 a.2]] false a.2.isEmpty 1] ++ outHp 11 2 a.2, base := 0 }) (fun a => a.1 ≤ l.length ∧ a.2 = (l.take a.1).map ptCells ∧ (l.take a.1).all decOk = true) (fun a => l.length - a.1) (0, []) rfl ⟨Nat.zero_le _, rfl, rfl⟩ ?_
  rintro ⟨k, out⟩ ⟨hk, ho, ha⟩
  simp only at hk ho ha
  by_cases hlt : k < l.length
  · obtain ⟨d, hdk⟩ := get_some hlt
    have hp2 := map_get (g := encDec) hdk
    have hr := hd d (List.mem_of_getElem? hdk)
    simp only [encDec] at hp2 hr
    have hlen : out.length = k := by rw [ho]; simp; omega
    cases hb : decOk d with
    | true =>
      rw [hb] at hr
      have hall := take_succ_all hdk ha hb
      have hnew : out ++ [ptCells d] = (l.take (k + 1)).map ptCells := by rw [ho, List.take_add_one, hdk]; simp
      cases out with
      | nil =>
        (repeat' first | simp (disch := omega) only [go_sem, hp2, List.length_map, outSl, outHp, List.isEmpty_nil] | refine pure_of _ (hr) ?_ | (refine spl (fun h => ?_) (fun h => ?_) <;> try simp (disch := omega) only [go_sem, hp2, List.length_map, outSl, outHp, List.isEmpty_nil , h]) | fail)
        all_goals try omega
        refine ⟨(k + 1, (l.take (k + 1)).map ptCells), ?_, ⟨hlt, rfl, hall⟩, by simp only; omega⟩
        simp only [← hnew]
        rfl
      | cons y ys =>
        simp only [List.length_cons] at hlen
        (repeat' first | simp (disch := omega) only [go_sem, hp2, List.length_map, outSl, outHp, List.isEmpty_cons] | refine pure_of _ (hr) ?_ | (refine spl (fun h => ?_) (fun h => ?_) <;> try simp (disch := omega) only [go_sem, hp2, List.length_map, outSl, outHp, List.isEmpty_cons , h]) | fail)
        all_goals try omega
        refine ⟨(k + 1, (l.take (k + 1)).map ptCells), ?_, ⟨hlt, rfl, hall⟩, by simp only; omega⟩
        simp only [← hnew, List.cons_append, outSl, outHp, List.length_append, List.length_cons, List.length_nil, List.isEmpty_cons]
        rfl
    | false =>
      rw [hb] at hr
      have hn : l.all decOk = false := not_all hdk hb
      rw [hn]
      cases out with
      | nil =>
        (repeat' first | simp (disch := omega) only [go_sem, hp2, List.length_map, outSl, outHp, List.isEmpty_nil] | refine pure_of _ (hr) ?_ | (refine spl (fun h => ?_) (fun h => ?_) <;> try simp (disch := omega) only [go_sem, hp2, List.length_map, outSl, outHp, List.isEmpty_nil , h]) | fail)
        all_goals first | omega | rfl | skip
      | cons y ys =>
        simp only [List.length_cons] at hlen
        (repeat' first | simp (disch := omega) only [go_sem, hp2, List.length_map, outSl, outHp, List.isEmpty_cons] | refine pure_of _ (hr) ?_ | (refine spl (fun h => ?_) (fun h => ?_) <;> try simp (disch := omega) only [go_sem, hp2, List.length_map, outSl, outHp, List.isEmpty_cons , h]) | fail)
        all_goals first | omega | rfl | skip
  · rw [take_len hlt hk] at ha ho
    rw [ha, if_pos rfl]
    have hlen : out.length = l.length := by rw [ho]; simp
    by_cases h256 : l.length ≤ 256
    · rw [if_pos h256]
      cases out with
      | nil =>
        have hlo : l = [] := by cases l with
          | nil => rfl
          | cons x l => simp at hlen
        subst hlo
        (repeat' first | simp (disch := omega) only [go_sem, List.length_map, outSl, outHp, List.isEmpty_nil] | (refine spl (fun h => ?_) (fun h => ?_) <;> try simp (disch := omega) only [go_sem, List.length_map, outSl, outHp, List.isEmpty_nil, h]) | fail)
        all_goals first | omega | rfl | skip
      | cons y ys =>
        simp only [List.length_cons] at hlen
        rw [ptCells_eq] at ho
        (repeat' first | simp (disch := omega) only [go_sem, List.length_map, outSl, outHp, List.isEmpty_cons, List.take_length] | (refine spl (fun h => ?_) (fun h => ?_) <;> try simp (disch := omega) only [go_sem, List.length_map, outSl, outHp, List.isEmpty_cons, List.take_length, h]) | fail)
        all_goals try omega
        all_goals (simp only [← ho]; try rw [List.take_of_length_le (by simp)])
    · rw [if_neg h256]
      cases out with
      | nil =>
        (repeat' first | simp (disch := omega) only [go_sem, List.length_map, outSl, outHp, List.isEmpty_nil] | (refine spl (fun h => ?_) (fun h => ?_) <;> try simp (disch := omega) only [go_sem, List.length_map, outSl, outHp, List.isEmpty_nil, h]) | fail)
        all_goals first | omega | rfl | skip
      | cons y ys =>
        simp only [List.length_cons] at hlen
        (repeat' first | simp (disch := omega) only [go_sem, List.length_map, outSl, outHp, List.isEmpty_cons] | (refine spl (fun h => ?_) (fun h => ?_) <;> try simp (disch := omega) only [go_sem, List.length_map, outSl, outHp, List.isEmpty_cons, h]) | fail)
        all_goals first | omega | rfl | skip
theorem Points_run (l : List Dec) (hl : l.length < 2 ^ 24) (hs : ∀ d, d ∈ l → d.digits.length < 2 ^ 31) : PRun CN 682 [.tsl 3 (l.map encDec)] (encNR (ptsM l)) := by
  have hd : ∀ d, d ∈ l → PRun CN 79 [encDec d] (.bool (decOk d)) := fun d h => upN (decOk_run d (hs d h))
  refine prun_of ac682 rfl ?_
  unfold ptsM encNR encNS
  (repeat' first | simp (disch := omega) only [go_sem, ac682, enter, List.length_map] | (refine spl (fun h => ?_) (fun h => ?_) <;> try simp (disch := omega) only [go_sem, ac682, enter, List.length_map, h]) | fail)
  refine loop_of (α := Nat × List AV) (fun a => { tmps := slots 38 [(0, .tsl 3 (l.map encDec)), (2, .ptr 1 0 0 0), (4, .ptr 1 1 0 0), (5, .int .i64 a.1)], heap := [.row 1 [.agg [.snil 11]] false true 0, .row 1 [.agg [outSl 11 2 a.2]] false a.2.isEmpty 1] ++ outHp 11 2 a.2, base := 0 }) (fun a => a.1 ≤ l.length ∧ a.2 = (l.take a.1).map ptCells ∧ (l.take a.1).all decOk = true) (fun a => l.length - a.1) (0, []) rfl ⟨Nat.zero_le _, rfl, rfl⟩ ?_
  rintro ⟨k, out⟩ ⟨hk, ho, ha⟩
  simp only at hk ho ha
  by_cases hlt : k < l.length
  · obtain ⟨d, hdk⟩ := get_some hlt
    have hp2 := map_get (g := encDec) hdk
    have hr := hd d (List.mem_of_getElem? hdk)
    simp only [encDec] at hp2 hr
    have hlen : out.length = k := by rw [ho]; simp; omega
    cases hb : decOk d with
    | true =>
      rw [hb] at hr
      have hall := take_succ_all hdk ha hb
      have hnew : out ++ [ptCells d] = (l.take (k + 1)).map ptCells := by rw [ho, List.take_add_one, hdk]; simp
      cases out with
      | nil =>
        (repeat' first | simp (disch := omega) only [go_sem, hp2, List.length_map, outSl, outHp, List.isEmpty_nil] | refine pure_of _ (hr) ?_ | (refine spl (fun h => ?_) (fun h => ?_) <;> try simp (disch := omega) only [go_sem, hp2, List.length_map, outSl, outHp, List.isEmpty_nil , h]) | fail)
        all_goals try omega
        refine ⟨(k + 1, (l.take (k + 1)).map ptCells), ?_, ⟨hlt, rfl, hall⟩, by simp only; omega⟩
        simp only [← hnew]
        rfl
      | cons y ys =>
        simp only [List.length_cons] at hlen
        (repeat' first | simp (disch := omega) only [go_sem, hp2, List.length_map, outSl, outHp, List.isEmpty_cons] | refine pure_of _ (hr) ?_ | (refine spl (fun h => ?_) (fun h => ?_) <;> try simp (disch := omega) only [go_sem, hp2, List.length_map, outSl, outHp, List.isEmpty_cons , h]) | fail)
        all_goals try omega
        refine ⟨(k + 1, (l.take (k + 1)).map ptCells), ?_, ⟨hlt, rfl, hall⟩, by simp only; omega⟩
        simp only [← hnew, List.cons_append, outSl, outHp, List.length_append, List.length_cons, List.length_nil, List.isEmpty_cons]
        rfl
    | false =>
      rw [hb] at hr
      have hn : l.all decOk = false := not_all hdk hb
      rw [hn]
      cases out with
      | nil =>
        (repeat' first | simp (disch := omega) only [go_sem, hp2, List.length_map, outSl, outHp, List.isEmpty_nil] | refine pure_of _ (hr) ?_ | (refine spl (fun h => ?_) (fun h => ?_) <;> try simp (disch := omega) only [go_sem, hp2, List.length_map, outSl, outHp, List.isEmpty_nil , h]) | fail)
        all_goals first | omega | rfl | skip
      | cons y ys =>
        simp only [List.length_cons] at hlen
        (repeat' first | simp (disch := omega) only [go_sem, hp2, List.length_map, outSl, outHp, List.isEmpty_cons] | refine pure_of _ (hr) ?_ | (refine spl (fun h => ?_) (fun h => ?_) <;> try simp (disch := omega) only [go_sem, hp2, List.length_map, outSl, outHp, List.isEmpty_cons , h]) | fail)
        all_goals first | omega | rfl | skip
  · rw [take_len hlt hk] at ha ho
    rw [ha, if_pos rfl]
    have hlen : out.length = l.length := by rw [ho]; simp
    by_cases h256 : l.length ≤ 256
    · rw [if_pos h256]
      cases out with
      | nil =>
        have hlo : l = [] := by cases l with
          | nil => rfl
          | cons x l => simp at hlen
        subst hlo
        (repeat' first | simp (disch := omega) only [go_sem, List.length_map, outSl, outHp, List.isEmpty_nil] | (refine spl (fun h => ?_) (fun h => ?_) <;> try simp (disch := omega) only [go_sem, List.length_map, outSl, outHp, List.isEmpty_nil, h]) | fail)
        all_goals first | omega | rfl | skip
      | cons y ys =>
        simp only [List.length_cons] at hlen
        rw [ptCells_eq] at ho
        (repeat' first | simp (disch := omega) only [go_sem, List.length_map, outSl, outHp, List.isEmpty_cons, List.take_length] | (refine spl (fun h => ?_) (fun h => ?_) <;> try simp (disch := omega) only [go_sem, List.length_map, outSl, outHp, List.isEmpty_cons, List.take_length, h]) | fail)
        all_goals try omega
        all_goals (simp only [← ho]; try rw [List.take_of_length_le (by simp)])
    · rw [if_neg h256]
      cases out with
      | nil =>
        (repeat' first | simp (disch := omega) only [go_sem, List.length_map, outSl, outHp, List.isEmpty_nil] | (refine spl (fun h => ?_) (fun h => ?_) <;> try simp (disch := omega) only [go_sem, List.length_map, outSl, outHp, List.isEmpty_nil, h]) | fail)
        all_goals first | omega | rfl | skip
      | cons y ys =>
        simp only [List.length_cons] at hlen
        (repeat' first | simp (disch := omega) only [go_sem, List.length_map, outSl, outHp, List.isEmpty_cons] | (refine spl (fun h => ?_) (fun h => ?_) <;> try simp (disch := omega) only [go_sem, List.length_map, outSl, outHp, List.isEmpty_cons, h]) | fail)
        all_goals first | omega | rfl | skip
theorem ofM_len (p : Prt) : (ofM p).1.length < 2 ^ 31 := by
  unfold ofM
  split <;> simp
theorem ptsM_len (l : List Dec) : (ptsM l).1.length < 2 ^ 31 := by
  unfold ptsM
  split
  · split
    · simp; omega
    · simp
  · simp
theorem numsetMakes_run (haw : PRun CN 671 [] (.bool true)) (p : Prt) (l : List Dec) (hp : p.lo.num.digits.length < 2 ^ 31 ∧ p.hi.num.digits.length < 2 ^ 31) (hl : l.length < 2 ^ 24) (hs : ∀ d, d ∈ l → d.digits.length < 2 ^ 31) : PRun CN 669 [encPrt p, .tsl 3 (l.map encDec)] (.bool true) := by
  have h1 := OfI_run p.lo p.hi p.sort hp.1 hp.2
  have h2 := Of_run p.lo p.hi p.sort hp.1 hp.2
  have h3 := PointsI_run l hl hs
  have h4 := Points_run l hl hs
  have s1 := same_self _ (ofM_len ⟨p.lo, p.hi, p.sort⟩)
  have s2 := same_self _ (ptsM_len l)
  have s3 := same_self [allPrt] (by simp)
  have s4 := same_self [] (by simp)
  have a1 := AllI_run
  have a2 := All_run
  have n1 := NoneI_run
  have n2 := None_run
  generalize ofM ⟨p.lo, p.hi, p.sort⟩ = r1 at h1 h2 s1
  generalize ptsM l = r2 at h3 h4 s2
  generalize [allPrt] = r3 at s3 a1 a2
  generalize ([] : List Prt) = r4 at s4 n1 n2
  obtain ⟨r1, e1⟩ := r1
  obtain ⟨r2, e2⟩ := r2
  refine prun_of ac669 rfl ?_
  unfold encNR encNS encBnd encPrt at *
  (repeat' first | simp (disch := omega) only [go_sem, ac669, enter, List.length_map] | refine pure_of _ (h1) ?_ | refine pure_of _ (h2) ?_ | refine pure_of _ (h3) ?_ | refine pure_of _ (h4) ?_ | refine pure_of _ (s1) ?_ | refine pure_of _ (s2) ?_ | refine pure_of _ (s3) ?_ | refine pure_of _ (s4) ?_ | refine pure_of _ (a1) ?_ | refine pure_of _ (a2) ?_ | refine pure_of _ (n1) ?_ | refine pure_of _ (n2) ?_ | refine pure_of _ (haw) ?_ | (refine spl (fun h => ?_) (fun h => ?_) <;> try simp (disch := omega) only [go_sem, ac669, enter, List.length_map , h]) | fail)
  all_goals omega
end Ago
