/- Least automata: the last byte of a class, the digits of small numbers. -/
import Derived.Test.YtgfkbpjgfdgfbaaGreatDoorRunA
set_option linter.unusedSimpArgs false
set_option linter.unusedVariables false
set_option maxRecDepth 100000
set_option maxHeartbeats 4000000
namespace Ago
open Go (IntKind)
def encN (n:Nat):AV:=.int .i64 n
def hiN (l:List Nat) (i:Nat):Int:=match l[i+1]? with
  | some b=>(b:Int)-1
  | none=>255
theorem hiOf_run (l:List Nat) (hl:l.length<1000) (hb : ∀ b, b∈l→b<256) (i:Nat) (hi:i<1000):PRun CB 391 [.tsl 1 (l.map encN), .int .i64 i] (.int .i64 (hiN l i)):=by
  refine prun_of ac391 rfl ?_
  by_cases h:i+1<l.length
  · obtain ⟨b, hx⟩:=exAt h
    have hb':=hb b (List.mem_of_getElem? hx)
    have hg:(l.map encN)[i+1]?=some (.int .i64 b):=mget hx
    have he:hiN l i=(b:Int)-1:=by unfold hiN; rw[hx]
    have e1:((i:Int)+1).toNat=i+1:=by omega
    rw[he]
    (repeat' first|simp (disch:=omega) only[go_sem, ac391, enter, List.length_map, hg, e1, encN]|(apply spl<;>intro h<;>try simp (disch:=omega) only[go_sem, ac391, enter, List.length_map, hg, e1, encN, h]))
    all_goals first | omega
  · have he:hiN l i=255:=by unfold hiN; rw[List.getElem?_eq_none (by omega)]
    rw[he]
    (repeat' first|simp (disch:=omega) only[go_sem, ac391, enter, List.length_map]|(apply spl<;>intro h<;>try simp (disch:=omega) only[go_sem, ac391, enter, List.length_map, h]))
    all_goals first | omega
theorem itoa_run (n:Nat) (hn:n<1000000):PRun CB 371 [.int .i64 n] (.str (itD n)):=fun_run rfl (itoaF_eq n (by omega))
end Ago
/- Least automata: the first bytes of the classes of bytes. -/
set_option maxRecDepth 100000
set_option maxHeartbeats 4000000
namespace Ago
open Go (IntKind)
/-- The marks at the bytes of a list. -/
def mkB (l:List Int):List AV:=(List.range 256).map fun (b:Nat)=>.bool (decide ((b:Int)∈l))
theorem mkB_len (l:List Int):(mkB l).length=256:=by
  unfold mkB
  rw[List.length_map, List.length_range]
theorem mkB_get (l:List Int) {b:Nat} (h:b<256):(mkB l)[b]?=some (.bool (decide ((b:Int)∈l))):=by
  unfold mkB
  rw[List.getElem?_map, List.getElem?_range h]
  rfl
theorem mkB_set (l:List Int) {a:Int} (h0:0≤a) (h:a<256):(mkB l).set a.toNat (.bool true)=mkB (l++[a]):=by
  apply List.ext_getElem?
  intro i
  rw[List.getElem?_set, mkB_len]
  by_cases hi:i<256
  · rw[mkB_get _ hi, mkB_get _ hi]
    by_cases he:a.toNat=i
    · have e:(i:Int)=a:=by omega
      rw[if_pos he, if_pos (by omega), e]
      simp
    · have e : ¬ (i:Int)=a:=by omega
      rw[if_neg he]
      simp [e]
  · rw[if_neg (by omega), List.getElem?_eq_none (by rw[mkB_len]; omega), List.getElem?_eq_none (by rw[mkB_len]; omega)]
theorem mkB_nil:mkB []=List.replicate 256 (.bool false):=by
  unfold mkB
  simp only[List.not_mem_nil, decide_false]
  rfl
theorem flat_bools {α:Type} (f:α→Bool) : ∀ l:List α, flat (l.map fun b=>.bool (f b))=l.map fun b=>.bool (f b)
  | []=>rfl
  | x::l=>by
    rw[List.map_cons]
    unfold flat
    rw[flat_bools f l]
    rfl
theorem mkB_flat (l:List Int):flat ((mkB l).take 256)=mkB l:=by
  rw[List.take_of_length_le (by rw[mkB_len]; omega)]
  exact flat_bools _ _
def losA (l:List Arc):List Int:=l.map (·.lo)
def losS (m:List Sta):List Int:=m.flatMap fun s=>losA s.arcs
theorem losS_add {m:List Sta} {i:Nat} {x:Sta} (h:m[i]?=some x):losS (m.take (i+1))=losS (m.take i)++losA x.arcs:=by
  unfold losS
  rw[List.take_add_one, h, Option.toList_some, List.flatMap_append]
  simp
theorem losA_add {l:List Arc} {i:Nat} {x:Arc} (h:l[i]?=some x):losA (l.take (i+1))=losA (l.take i)++[x.lo]:=by
  unfold losA
  rw[List.take_add_one, h, Option.toList_some, List.map_append]
  rfl
def losL (ms:List (List Sta)):List Int:=ms.flatMap losS
theorem losL_add {ms:List (List Sta)} {i:Nat} {x:List Sta} (h:ms[i]?=some x):losL (ms.take (i+1))=losL (ms.take i)++losS x:=by
  unfold losL
  rw[List.take_add_one, h, Option.toList_some, List.flatMap_append]
  simp
theorem losL_one (m:List Sta):losL [m]=losS m:=List.append_nil _
def stA (ms:List (List Sta)) (k:Nat):St:=
  { tmps:=slots 51 [(3, .ptr 1 0 0 0), (13, .tsl 1 (ms.map encMa)), (14, .int .i64 ms.length), (15, .int .i64 k)],
    heap:=[.row 1 (mkB (losL (ms.take k))) false true 0], base:=0 }
def stB (ms:List (List Sta)) (k:Nat) (m:List Sta) (i:Nat):St:=
  { tmps:=slots 51 [(3, .ptr 1 0 0 0), (13, .tsl 1 (ms.map encMa)), (14, .int .i64 ms.length), (15, .int .i64 k), (20, .tsl 2 (m.map encSta)), (21, .int .i64 m.length), (22, .int .i64 i)],
    heap:=[.row 1 (mkB (losL (ms.take k)++losS (m.take i))) false true 0], base:=0 }
def stC (ms:List (List Sta)) (k:Nat) (m:List Sta) (i:Nat) (l:List Arc) (j:Nat):St:=
  { tmps:=slots 51 [(3, .ptr 1 0 0 0), (13, .tsl 1 (ms.map encMa)), (14, .int .i64 ms.length), (15, .int .i64 k), (20, .tsl 2 (m.map encSta)), (21, .int .i64 m.length), (22, .int .i64 i), (27, .tsl 3 (l.map encArc)), (28, .int .i64 l.length), (29, .int .i64 j)],
    heap:=[.row 1 (mkB (losL (ms.take k)++losS (m.take i)++losA (l.take j))) false true 0], base:=0 }
/-- The bytes below k that are among these. -/
def stN (los:List Int) (k:Nat):List Nat:=(List.range k).filter fun (b:Nat)=>decide ((b:Int)∈los)
theorem stN_yes {los:List Int} {k:Nat} (h:(k:Int)∈los):stN los (k+1)=stN los k++[k]:=by
  unfold stN
  rw[List.range_succ, List.filter_append]
  simp [h]
theorem stN_no {los:List Int} {k:Nat} (h:(k:Int)∉los):stN los (k+1)=stN los k:=by
  unfold stN
  rw[List.range_succ, List.filter_append]
  simp [h]
theorem stN_le (los:List Int) (k:Nat):(stN los k).length≤k:=by
  unfold stN
  refine Nat.le_trans (List.length_filter_le ..) ?_
  rw[List.length_range]
  exact Nat.le_refl _
def stD (L:List AV) (los:List Int) (k:Nat):St:=
  { tmps:=slots 51 [(10, match stN los k with | []=>.snil 1 | b::l=>.sref 1 0 0 (l.length+1)), (39, .agg L), (40, .int .i64 k)],
    heap:=match stN los k with | []=>[] | b::l=>[.row 1 ((b::l).map encN) false true 0], base:=0 }
/-- A list of numbers. -/
def encB (l:List Nat):AV:=.tsl 1 (l.map encN)
theorem frz_encN (H:Heap) (n:Nat) : ∀ l:List Nat, omap (frz H (n+1)) (l.map encN)=some (l.map encN)
  | []=>rfl
  | x::l=>by
    rw[List.map_cons]
    unfold omap
    rw[frz_encN H n l, show frz H (n+1) (encN x)=some (encN x) from rfl]
theorem startsL_run (ms:List (List Sta)) (hms:ms.length<1000) (h : ∀ m, m∈ms→SmallM m) (hb : ∀ m, m∈ms→∀ s, s∈m→∀ a, a∈s.arcs→0≤a.lo∧a.lo<256):PRun CB 370 [.tsl 1 (ms.map encMa)] (encB (stN (losL ms) 256)):=by
  refine prun_of ac370 rfl ?_
  (repeat' first|simp (disch:=omega) only[go_sem, ac370, enter, List.length_map]|(apply spl<;>intro h<;>try simp (disch:=omega) only[go_sem, ac370, enter, List.length_map, h]))
  all_goals try omega
  have hlit:=mkB_nil
  refine loop_of (α:=Nat) (stA ms) (fun k=>k≤ms.length) (fun k=>ms.length-k) 0 (by unfold stA; rw[List.take_zero, show losL []=[] from rfl, mkB_nil]; rfl) (Nat.zero_le _) ?_
  intro k hk
  by_cases hk1:k<ms.length
  · obtain ⟨m, hmx⟩:=exAt hk1
    have hmx2:(ms.map encMa)[k]?=some (.agg [.tsl 2 (m.map encSta)]):=mget hmx
    obtain ⟨hm, hA⟩:=h m (List.mem_of_getElem? hmx)
    have hb:=hb m (List.mem_of_getElem? hmx)
    rw[stA]
    (repeat' first|simp (disch:=omega) only[go_sem, hmx2, List.length_map]|(apply spl<;>intro h<;>try simp (disch:=omega) only[go_sem, hmx2, List.length_map, h]))
    all_goals try omega
    refine loop_of (α:=Nat) (stB ms k m) (fun k=>k≤m.length) (fun k=>m.length-k) 0 (by unfold stB; rw[List.take_zero, show losS []=[] from rfl, List.append_nil]; rfl) (Nat.zero_le _) ?_
    intro i hi
    by_cases hlt:i<m.length
    · obtain ⟨x, hx⟩:=exAt hlt
      have hx2:(m.map encSta)[i]?=some (.agg [.bool x.acc, .tsl 3 (x.arcs.map encArc)]):=mget hx
      have hxa:=hA x (List.mem_of_getElem? hx)
      have hxb:=hb x (List.mem_of_getElem? hx)
      rw[stB]
      (repeat' first|simp (disch:=omega) only[go_sem, hx2, List.length_map]|(apply spl<;>intro h<;>try simp (disch:=omega) only[go_sem, hx2, List.length_map, h]))
      all_goals try omega
      refine loop_of (α:=Nat) (stC ms k m i x.arcs) (fun k=>k≤x.arcs.length) (fun k=>x.arcs.length-k) 0 (by unfold stC; rw[List.take_zero, show losA []=[] from rfl, List.append_nil]; rfl) (Nat.zero_le _) ?_
      intro j hj
      by_cases hjt:j<x.arcs.length
      · obtain ⟨a, ha⟩:=exAt hjt
        have ha2:(x.arcs.map encArc)[j]?=some (.agg [.int .i64 a.lo, .int .i64 a.hi, .int .i64 a.next]):=mget ha
        obtain ⟨h0, h1⟩:=hxb a (List.mem_of_getElem? ha)
        rw[stC]
        have hg:=mkB_get (losL (ms.take k)++losS (m.take i)++losA (x.arcs.take j)) (b:=a.lo.toNat) (by omega)
        have hs:=mkB_set (losL (ms.take k)++losS (m.take i)++losA (x.arcs.take j)) h0 (by omega)
        (repeat' first|simp (disch:=omega) only[go_sem, ha2, List.length_map, mkB_len, hg, hs]|(apply spl<;>intro h<;>try simp (disch:=omega) only[go_sem, ha2, List.length_map, mkB_len, hg, hs, h]))
        all_goals try omega
        refine ⟨j+1, ?_, by omega, by omega⟩
        rw[stC, losA_add ha, ← List.append_assoc]
        rfl
      · have hje:j=x.arcs.length:=by omega
        subst hje
        rw[stC]
        (repeat' first|simp (disch:=omega) only[go_sem, List.length_map]|(apply spl<;>intro h<;>try simp (disch:=omega) only[go_sem, List.length_map, h]))
        all_goals try omega
        refine ⟨i+1, ?_, by omega, by omega⟩
        rw[stB, losS_add hx, List.take_length, ← List.append_assoc]
        rfl
    · have hie:i=m.length:=by omega
      subst hie
      rw[stB]
      (repeat' first|simp (disch:=omega) only[go_sem, List.length_map]|(apply spl<;>intro h<;>try simp (disch:=omega) only[go_sem, List.length_map, h]))
      all_goals try omega
      refine ⟨k+1, ?_, by omega, by omega⟩
      rw[stA, losL_add hmx, List.take_length]
      rfl
  · have hke:k=ms.length:=by omega
    subst hke
    rw[stA, List.take_length]
    have hLn:=mkB_len (losL ms)
    have hLf:=mkB_flat (losL ms)
    have hLg : ∀ b, b<256→(mkB (losL ms))[b]?=some (.bool (decide ((b:Int)∈losL ms))):=fun b h=>mkB_get _ h
    (repeat' first|simp (disch:=omega) only[go_sem, hLn, hLf, List.length_map]|(apply spl<;>intro h<;>try simp (disch:=omega) only[go_sem, hLn, hLf, List.length_map, h]))
    all_goals try omega
    refine loop_of (α:=Nat) (stD (mkB (losL ms)) (losL ms)) (fun k=>k≤256) (fun k=>256-k) 0 (by unfold stD; rfl) (Nat.zero_le _) ?_
    intro k hk
    by_cases hkt:k<256
    · have hg:=hLg k hkt
      by_cases hin:(k:Int)∈losL ms
      · rw[decide_eq_true hin] at hg
        cases hs:stN (losL ms) k with
        | nil=>
          rw[stD, hs]
          (repeat' first|simp (disch:=omega) only[go_sem, hLn, hg, Nat.mul_one]|(apply spl<;>intro h<;>try simp (disch:=omega) only[go_sem, hLn, hg, Nat.mul_one, h]))
          all_goals try omega
          refine ⟨k+1, ?_, by omega, by omega⟩
          rw[stD, stN_yes hin, hs]
          rfl
        | cons b bs=>
          have hbl:=stN_le (losL ms) k
          rw[hs, List.length_cons] at hbl
          rw[stD, hs]
          (repeat' first|simp (disch:=omega) only[go_sem, hLn, hg, Nat.mul_one, List.length_cons, List.length_map]|(apply spl<;>intro h<;>try simp (disch:=omega) only[go_sem, hLn, hg, Nat.mul_one, List.length_cons, List.length_map, h]))
          all_goals try omega
          refine ⟨k+1, ?_, by omega, by omega⟩
          rw[stD, stN_yes hin, hs, List.cons_append]
          simp only[List.map_cons, List.map_append, List.map_nil, List.length_append, List.length_cons, List.length_nil]
          rfl
      · rw[decide_eq_false hin] at hg
        cases hs:stN (losL ms) k with
        | nil=>
          rw[stD, hs]
          (repeat' first|simp (disch:=omega) only[go_sem, hLn, hg, Nat.mul_one]|(apply spl<;>intro h<;>try simp (disch:=omega) only[go_sem, hLn, hg, Nat.mul_one, h]))
          all_goals try omega
          refine ⟨k+1, ?_, by omega, by omega⟩
          rw[stD, stN_no hin, hs]
          rfl
        | cons b bs=>
          rw[stD, hs]
          (repeat' first|simp (disch:=omega) only[go_sem, hLn, hg, Nat.mul_one]|(apply spl<;>intro h<;>try simp (disch:=omega) only[go_sem, hLn, hg, Nat.mul_one, h]))
          all_goals try omega
          refine ⟨k+1, ?_, by omega, by omega⟩
          rw[stD, stN_no hin, hs]
          rfl
    · have hke:k=256:=by omega
      subst hke
      unfold encB
      cases hs:stN (losL ms) 256 with
      | nil=>
        rw[stD, hs]
        (repeat' first|simp (disch:=omega) only[go_sem]|(apply spl<;>intro h<;>try simp (disch:=omega) only[go_sem, h]))
      | cons b bs=>
        have e1 : ∀ H n, omap (frz H (n+1)) (bs.map encN)=some (bs.map encN):=fun H n=>frz_encN H n bs
        have e2:(bs.map encN).take bs.length=bs.map encN:=List.take_of_length_le (by rw[List.length_map]; exact Nat.le_refl _)
        have e3 : ∀ H n, frz H (n+1) (encN b)=some (encN b):=fun H n=>rfl
        rw[stD, hs]
        (repeat' first|simp (disch:=omega) only[go_sem, List.length_map, e2, e1 _ 4, e3 _ 4, List.map_cons]|(apply spl<;>intro h<;>try simp (disch:=omega) only[go_sem, List.length_map, e2, e1 _ 4, e3 _ 4, List.map_cons, h]))
        all_goals first | omega | rfl
theorem starts_run (m:List Sta) (h:SmallM m) (hb : ∀ s, s∈m→∀ a, a∈s.arcs→0≤a.lo∧a.lo<256):PRun CB 370 [.tsl 1 [encMa m]] (encB (stN (losS m) 256)):=by
  have:=startsL_run [m] (by rw[List.length_singleton]; omega) (fun x hx=>by rw[List.mem_singleton.1 hx]; exact h) (fun x hx=>by rw[List.mem_singleton.1 hx]; exact hb)
  rw[losL_one] at this
  exact this
end Ago
/- Least automata: rows of numbers, compared and found, in the reference. -/
set_option maxRecDepth 100000
set_option maxHeartbeats 4000000
namespace Ago
open Go (IntKind)
def eqSt (a b:List Nat) (k:Nat):St:={ tmps:=slots 26 [(0, encB a), (1, encB b), (5, .int .i64 k)], heap:=[], base:=0 }
theorem equal_run (a b:List Nat) (ha:a.length<2^30) (hb:b.length<2^30):PRun CB 403 [encB a, encB b] (.bool (decide (a=b))):=by
  refine prun_of ac403 rfl ?_
  by_cases hl:a.length=b.length
  · unfold encB
    (repeat' first|simp (disch:=omega) only[go_sem, ac403, enter, List.length_map, hl]|(apply spl<;>intro h<;>try simp (disch:=omega) only[go_sem, ac403, enter, List.length_map, hl, h]))
    all_goals try omega
    refine loop_of (α:=Nat) (eqSt a b) (fun k=>k≤b.length∧a.take k=b.take k) (fun k=>b.length-k) 0 rfl ⟨Nat.zero_le _, rfl⟩ ?_
    intro k hk
    obtain ⟨hk, he⟩:=hk
    by_cases hlt:k<b.length
    · obtain ⟨y, hy⟩:=exAt hlt
      obtain ⟨x, hx⟩:=exAt (show k<a.length by omega)
      have hx2:(a.map encN)[k]?=some (.int .i64 x):=mget hx
      have hy2:(b.map encN)[k]?=some (.int .i64 y):=mget hy
      rw[eqSt]
      unfold encB
      by_cases hxy:x=y
      · subst hxy
        (repeat' first|simp (disch:=omega) only[go_sem, List.length_map, hl, hx2, hy2]|(apply spl<;>intro h<;>try simp (disch:=omega) only[go_sem, List.length_map, hl, hx2, hy2, h]))
        all_goals try omega
        refine ⟨k+1, rfl, ⟨by omega, ?_⟩, by omega⟩
        rw[List.take_add_one, List.take_add_one, hx, hy, he]
      · have hne:a≠b:=fun e=>hxy (by rw[e, hy] at hx; exact (Option.some.inj hx).symm)
        have hxy' : ¬ (x:Int)=y:=by omega
        rw[decide_eq_false hne]
        (repeat' first|simp (disch:=omega) only[go_sem, List.length_map, hl, hx2, hy2, hxy']|(apply spl<;>intro h<;>try simp (disch:=omega) only[go_sem, List.length_map, hl, hx2, hy2, hxy', h]))
        all_goals first | omega
    · have hab:a=b:=by
        rw[List.take_of_length_le (by omega), List.take_of_length_le (by omega)] at he
        exact he
      rw[decide_eq_true hab, eqSt]
      unfold encB
      (repeat' first|simp (disch:=omega) only[go_sem, List.length_map, hl]|(apply spl<;>intro h<;>try simp (disch:=omega) only[go_sem, List.length_map, hl, h]))
      all_goals first | omega
  · have hne:a≠b:=fun e=>hl (by rw[e])
    have hl' : ¬ (a.length:Int)=b.length:=by omega
    rw[decide_eq_false hne]
    unfold encB
    (repeat' first|simp (disch:=omega) only[go_sem, ac403, enter, List.length_map, hl']|(apply spl<;>intro h<;>try simp (disch:=omega) only[go_sem, ac403, enter, List.length_map, hl', h]))
    all_goals first | omega
/-- The place of a row among rows, or none. -/
def fndN (l:List (List Nat)) (x:List Nat):Int:=if x∈l then l.idxOf x else -1
def encR (l:List (List Nat)):AV:=.tsl 1 (l.map encB)
def fdSt (l:List (List Nat)) (x:List Nat) (k:Nat):St:={ tmps:=slots 19 [(0, encR l), (1, encB x), (5, .int .i64 k)], heap:=[], base:=0 }
theorem idxOf_at : ∀ (l:List (List Nat)) (x:List Nat) (k:Nat), l[k]?=some x→x∉l.take k→l.idxOf x=k
  | [], _, _, h, _=>by simp at h
  | y::l, x, 0, h, _=>by
    have:y=x:=by simpa using h
    subst this
    simp
  | y::l, x, k+1, h, hn=>by
    rw[List.take_succ_cons] at hn
    have h1:y≠x:=fun e=>hn (by rw[e]; exact List.mem_cons_self ..)
    have h2:x∉l.take k:=fun e=>hn (List.mem_cons_of_mem _ e)
    have e:(y == x)=false:=by simpa using h1
    rw[List.idxOf_cons, idxOf_at l x k (by simpa using h) h2, e]
    rfl
theorem find_run (l:List (List Nat)) (x:List Nat) (hl:l.length<2^30) (hw : ∀ y, y∈l→y.length<2^30) (hx:x.length<2^30):PRun CB 392 [encR l, encB x] (.int .i64 (fndN l x)):=by
  refine prun_of ac392 rfl ?_
  unfold encR
  (repeat' first|simp (disch:=omega) only[go_sem, ac392, enter, List.length_map]|(apply spl<;>intro h<;>try simp (disch:=omega) only[go_sem, ac392, enter, List.length_map, h]))
  refine loop_of (α:=Nat) (fdSt l x) (fun k=>k≤l.length∧x∉l.take k) (fun k=>l.length-k) 0 rfl ⟨Nat.zero_le _, by simp⟩ ?_
  intro k hk
  obtain ⟨hk, hn⟩:=hk
  by_cases hlt:k<l.length
  · obtain ⟨y, hy⟩:=exAt hlt
    have hy2:(l.map encB)[k]?=some (.tsl 1 (y.map encN)):=mget hy
    have hR:PRun CB 403 [.tsl 1 (y.map encN), encB x] (.bool (decide (y=x))):=equal_run y x (hw y (List.mem_of_getElem? hy)) hx
    have hf : ∀ H, frz H 6 (encB x)=some (encB x):=fun _=>rfl
    rw[fdSt]
    unfold encR
    by_cases hxy:y=x
    · subst hxy
      rw[decide_eq_true rfl] at hR
      have e1:fndN l y=k:=by
        unfold fndN
        rw[if_pos (List.mem_of_getElem? hy), idxOf_at l y k hy hn]
      rw[e1]
      (repeat' first|simp (disch:=omega) only[go_sem, List.length_map, hy2, hf]|refine pure_of _ (hR) ?_|(apply spl<;>intro h<;>try simp (disch:=omega) only[go_sem, List.length_map, hy2, hf , h]))
      all_goals first | omega | rfl
    · rw[decide_eq_false hxy] at hR
      (repeat' first|simp (disch:=omega) only[go_sem, List.length_map, hy2, hf]|refine pure_of _ (hR) ?_|(apply spl<;>intro h<;>try simp (disch:=omega) only[go_sem, List.length_map, hy2, hf , h]))
      all_goals try first | omega | rfl
      refine ⟨k+1, rfl, ⟨by omega, ?_⟩, by omega⟩
      rw[List.take_add_one, hy]
      simp only[Option.toList_some, List.mem_append, List.mem_singleton]
      exact fun e=>e.elim hn fun e=>hxy e.symm
  · have hnm:x∉l:=fun e=>hn (by rw[List.take_of_length_le (by omega)]; exact e)
    have e1:fndN l x = -1:=by unfold fndN; rw[if_neg hnm]
    rw[e1, fdSt]
    unfold encR
    (repeat' first|simp (disch:=omega) only[go_sem, List.length_map]|(apply spl<;>intro h<;>try simp (disch:=omega) only[go_sem, List.length_map, h]))
    all_goals first | omega | rfl
end Ago
/- Least automata: the arcs of a state, joined, in the reference. -/
set_option maxRecDepth 100000
set_option maxHeartbeats 4000000
namespace Ago
open Go (IntKind)
/-- A further arc, joined with the last one if both lead to one state. -/
def arcF (l:List Arc) (lo hi next:Int):List Arc:=match l.getLast? with
  | some a=>if a.next=next then l.dropLast++[⟨a.lo, hi, a.next⟩] else l++[⟨lo, hi, next⟩]
  | none=>[⟨lo, hi, next⟩]
theorem arcF_nil (lo hi next:Int):arcF [] lo hi next=[⟨lo, hi, next⟩]:=(rfl)
theorem arcF_same {l:List Arc} {a:Arc} {lo hi next:Int} (h:a.next=next):arcF (l++[a]) lo hi next=l++[⟨a.lo, hi, a.next⟩]:=by
  unfold arcF
  rw[List.getLast?_concat]
  simp only[h, if_true, List.dropLast_concat]
theorem arcF_diff {l:List Arc} {a:Arc} {lo hi next:Int} (h : ¬ a.next=next):arcF (l++[a]) lo hi next=(l++[a])++[⟨lo, hi, next⟩]:=by
  unfold arcF
  rw[List.getLast?_concat]
  simp only[h, if_false]
theorem arcF_len (l:List Arc) (lo hi next:Int):(arcF l lo hi next).length≤l.length+1:=by
  unfold arcF
  split
  · split
    · rw[List.length_append, List.length_dropLast, List.length_singleton]
      omega
    · rw[List.length_append, List.length_singleton]
      exact Nat.le_refl _
  · simp
def arcK (at':List Nat) (tg:List Nat):Nat→List Arc
  | 0=>[]
  | k+1=>arcF (arcK at' tg k) ((at'.getD k 0:Nat):Int) (hiN at' k) ((tg.getD k 0:Nat):Int)
theorem arcK_len (at' tg:List Nat) : ∀ k, (arcK at' tg k).length≤k
  | 0=>Nat.le_refl _
  | k+1=>by
    have h1:=arcK_len at' tg k
    have h2:=arcF_len (arcK at' tg k) ((at'.getD k 0:Nat):Int) (hiN at' k) ((tg.getD k 0:Nat):Int)
    unfold arcK
    omega
theorem last_cases {α:Type} : ∀ l:List α, l=[]∨∃ i a, l=i++[a]:=fun l=>by
  rcases List.eq_nil_or_concat l with h | ⟨i, a, h⟩
  · exact Or.inl h
  · exact Or.inr ⟨i, a, by rw[h, List.concat_eq_append]⟩
theorem exCons {α:Type} (i:List α) (a:α) : ∃ b l, i++[a]=b::l:=by
  cases i with
  | nil=>exact ⟨_, _, rfl⟩
  | cons c i=>exact ⟨_, _, rfl⟩
def acSt (at' tg:List Nat) (k:Nat):St:=
  { tmps:=slots 63 [(0, encB at'), (1, encB tg), (5, match arcK at' tg k with | []=>.snil 3 | b::l=>.sref 3 0 0 (l.length+1)), (6, .int .i64 k)],
    heap:=match arcK at' tg k with | []=>[] | b::l=>[.row 3 ((b::l).map encArc) false true 0], base:=0 }
theorem refArcs_run (at' tg:List Nat) (hl:at'.length≤256) (ht:tg.length=at'.length) (hb : ∀ b, b∈at'→b<256):PRun CB 375 [encB at', encB tg] (.tsl 3 ((arcK at' tg at'.length).map encArc)):=by
  refine prun_of ac375 rfl ?_
  unfold encB
  (repeat' first|simp (disch:=omega) only[go_sem, ac375, enter, List.length_map]|(apply spl<;>intro h<;>try simp (disch:=omega) only[go_sem, ac375, enter, List.length_map, h]))
  refine loop_of (α:=Nat) (acSt at' tg) (fun k=>k≤at'.length) (fun k=>at'.length-k) 0 rfl (Nat.zero_le _) ?_
  intro k hk
  have hK:=arcK_len at' tg k
  by_cases hlt:k<at'.length
  · obtain ⟨x, hx⟩:=exAt hlt
    obtain ⟨y, hy⟩:=exAt (show k<tg.length by omega)
    have hx2:(at'.map encN)[k]?=some (.int .i64 x):=mget hx
    have hy2:(tg.map encN)[k]?=some (.int .i64 y):=mget hy
    have hxb:=hb x (List.mem_of_getElem? hx)
    have hx3:at'.getD k 0=x:=by rw[List.getD_eq_getElem?_getD, hx]; rfl
    have hy3:tg.getD k 0=y:=by rw[List.getD_eq_getElem?_getD, hy]; rfl
    have hn:arcK at' tg (k+1)=arcF (arcK at' tg k) x (hiN at' k) y:=by
      rw[arcK, hx3, hy3]
    have e1:((k:Int)+1).toNat=k+1:=by omega
    by_cases h:k+1<at'.length
    · obtain ⟨b, hbx⟩:=exAt h
      have hg:(at'.map encN)[k+1]?=some (.int .i64 b):=mget hbx
      have hbb:=hb b (List.mem_of_getElem? hbx)
      have he:hiN at' k=(b:Int)-1:=by unfold hiN; rw[hbx]
      rcases last_cases (arcK at' tg k) with hs | ⟨i, a, hs⟩
      · rw[hs, arcF_nil, he] at hn
        rw[acSt, hs]
        unfold encB
        (repeat' first|simp (disch:=omega) only[go_sem, List.length_map, hx2, hy2, hg, e1]|(apply spl<;>intro h<;>try simp (disch:=omega) only[go_sem, List.length_map, hx2, hy2, hg, e1, h]))
        all_goals try omega
        refine ⟨k+1, ?_, by omega, by omega⟩
        rw[acSt, hn]
        rfl
      · obtain ⟨b', l, hbl⟩ : ∃ b' l, i++[a]=b'::l:=by
          cases i with
          | nil=>exact ⟨_, _, rfl⟩
          | cons c i=>exact ⟨_, _, rfl⟩
        have hil:i.length=l.length:=by
          have:=congrArg List.length hbl
          simpa using this
        have hll:l.length+1≤k:=by
          rw[hs, hbl, List.length_cons] at hK
          exact hK
        have e2:(((l.length+1:Nat):Int)-1).toNat=l.length:=by omega
        rw[acSt, hs, hbl]
        unfold encB
        simp only
        obtain ⟨R, hR⟩ : ∃ R, R=(b'::l).map encArc:=⟨_, rfl⟩
        have hRl:R.length=l.length+1:=by rw[hR, List.length_map, List.length_cons]
        have hRa:R[l.length]?=some (.agg [.int .i64 a.lo, .int .i64 a.hi, .int .i64 a.next]):=by
          rw[hR, ← hbl, List.map_append, List.getElem?_append_right (by rw[List.length_map]; omega), List.length_map, hil, Nat.sub_self]
          rfl
        have hRs : ∀ x, R.set l.length x=i.map encArc++[x]:=fun x=>by
          rw[hR, ← hbl, List.map_append, List.set_append_right _ _ (by rw[List.length_map]; omega), List.length_map, hil, Nat.sub_self]
          rfl
        rw[←hR]
        by_cases hay:a.next=y
        · rw[hs, arcF_same hay, he] at hn
          have hay':y=a.next:=hay.symm
          (repeat' first|simp (disch:=omega) only[go_sem, List.length_map, hx2, hy2, hg, e1, e2, hRl, hRa, hRs, hay]|(apply spl<;>intro h<;>try simp (disch:=omega) only[go_sem, List.length_map, hx2, hy2, hg, e1, e2, hRl, hRa, hRs, hay, h]))
          all_goals try omega
          refine ⟨k+1, ?_, by omega, by omega⟩
          rw[hay] at hn
          obtain ⟨b2, l2, hb2⟩:=exCons i (⟨a.lo, hiN at' k, (y:Int)⟩:Arc)
          rw[he] at hb2
          have hl2:l2.length=l.length:=by
            have:=congrArg List.length hb2
            rw[List.length_append, List.length_cons, List.length_cons, List.length_nil] at this
            omega
          rw[acSt, hn, hb2]
          dsimp only
          rw[←hb2, List.map_append, hl2]
          rfl
        · rw[hs, arcF_diff hay, he, hbl, List.cons_append] at hn
          (repeat' first|simp (disch:=omega) only[go_sem, List.length_map, hx2, hy2, hg, e1, e2, hRl, hRa, hay]|(apply spl<;>intro h<;>try simp (disch:=omega) only[go_sem, List.length_map, hx2, hy2, hg, e1, e2, hRl, hRa, hay, h]))
          all_goals try omega
          refine ⟨k+1, ?_, by omega, by omega⟩
          have hM : ∀ c, (b'::(l++[c])).map encArc=R++[encArc c]:=fun c=>by rw[hR]; simp
          rw[acSt, hn]
          dsimp only
          rw[hM, List.length_append, List.length_singleton]
          rfl
    · have he:hiN at' k=255:=by unfold hiN; rw[List.getElem?_eq_none (by omega)]
      have hg:=hx2
      rcases last_cases (arcK at' tg k) with hs | ⟨i, a, hs⟩
      · rw[hs, arcF_nil, he] at hn
        rw[acSt, hs]
        unfold encB
        (repeat' first|simp (disch:=omega) only[go_sem, List.length_map, hx2, hy2, hg, e1]|(apply spl<;>intro h<;>try simp (disch:=omega) only[go_sem, List.length_map, hx2, hy2, hg, e1, h]))
        all_goals try omega
        refine ⟨k+1, ?_, by omega, by omega⟩
        rw[acSt, hn]
        rfl
      · obtain ⟨b', l, hbl⟩ : ∃ b' l, i++[a]=b'::l:=by
          cases i with
          | nil=>exact ⟨_, _, rfl⟩
          | cons c i=>exact ⟨_, _, rfl⟩
        have hil:i.length=l.length:=by
          have:=congrArg List.length hbl
          simpa using this
        have hll:l.length+1≤k:=by
          rw[hs, hbl, List.length_cons] at hK
          exact hK
        have e2:(((l.length+1:Nat):Int)-1).toNat=l.length:=by omega
        rw[acSt, hs, hbl]
        unfold encB
        simp only
        obtain ⟨R, hR⟩ : ∃ R, R=(b'::l).map encArc:=⟨_, rfl⟩
        have hRl:R.length=l.length+1:=by rw[hR, List.length_map, List.length_cons]
        have hRa:R[l.length]?=some (.agg [.int .i64 a.lo, .int .i64 a.hi, .int .i64 a.next]):=by
          rw[hR, ← hbl, List.map_append, List.getElem?_append_right (by rw[List.length_map]; omega), List.length_map, hil, Nat.sub_self]
          rfl
        have hRs : ∀ x, R.set l.length x=i.map encArc++[x]:=fun x=>by
          rw[hR, ← hbl, List.map_append, List.set_append_right _ _ (by rw[List.length_map]; omega), List.length_map, hil, Nat.sub_self]
          rfl
        rw[←hR]
        by_cases hay:a.next=y
        · rw[hs, arcF_same hay, he] at hn
          have hay':y=a.next:=hay.symm
          (repeat' first|simp (disch:=omega) only[go_sem, List.length_map, hx2, hy2, hg, e1, e2, hRl, hRa, hRs, hay]|(apply spl<;>intro h<;>try simp (disch:=omega) only[go_sem, List.length_map, hx2, hy2, hg, e1, e2, hRl, hRa, hRs, hay, h]))
          all_goals try omega
          refine ⟨k+1, ?_, by omega, by omega⟩
          rw[hay] at hn
          obtain ⟨b2, l2, hb2⟩:=exCons i (⟨a.lo, hiN at' k, (y:Int)⟩:Arc)
          rw[he] at hb2
          have hl2:l2.length=l.length:=by
            have:=congrArg List.length hb2
            rw[List.length_append, List.length_cons, List.length_cons, List.length_nil] at this
            omega
          rw[acSt, hn, hb2]
          dsimp only
          rw[←hb2, List.map_append, hl2]
          rfl
        · rw[hs, arcF_diff hay, he, hbl, List.cons_append] at hn
          (repeat' first|simp (disch:=omega) only[go_sem, List.length_map, hx2, hy2, hg, e1, e2, hRl, hRa, hay]|(apply spl<;>intro h<;>try simp (disch:=omega) only[go_sem, List.length_map, hx2, hy2, hg, e1, e2, hRl, hRa, hay, h]))
          all_goals try omega
          refine ⟨k+1, ?_, by omega, by omega⟩
          have hM : ∀ c, (b'::(l++[c])).map encArc=R++[encArc c]:=fun c=>by rw[hR]; simp
          rw[acSt, hn]
          dsimp only
          rw[hM, List.length_append, List.length_singleton]
          rfl
  · have hke:k=at'.length:=by omega
    subst hke
    rcases hs:arcK at' tg at'.length with _ | ⟨b, l⟩
    · rw[acSt, hs]
      unfold encB
      (repeat' first|simp (disch:=omega) only[go_sem, List.length_map]|(apply spl<;>intro h<;>try simp (disch:=omega) only[go_sem, List.length_map, h]))
      all_goals first | omega | rfl
    · have e3 : ∀ (c:Arc), frz [Blk.row 3 ((b::l).map encArc) false true 0] 5 (encArc c)=some (encArc c):=fun _=>rfl
      rw[acSt, hs]
      unfold encB
      have e4:(l.map encArc).take l.length=l.map encArc:=List.take_of_length_le (by rw[List.length_map]; exact Nat.le_refl _)
      (repeat' first|simp (disch:=omega) only[go_sem, List.length_map, e4]|(apply spl<;>intro h<;>try simp (disch:=omega) only[go_sem, List.length_map, e4, h]))
      all_goals first | omega | rfl
end Ago
/- Least automata: an arc is added, or joined with the last one. -/
set_option maxRecDepth 100000
set_option maxHeartbeats 4000000
namespace Ago
open Go (IntKind)
/-- One row alone has its family. -/
def Lone (H:Heap) (r fam:Nat):Prop:=∀ j n els ro fl, H[j]?=some (.row n els ro fl fam)→j=r
theorem Lone.strike {H:Heap} {r fam:Nat} (h:Lone H r fam) (k:Nat):H.strike r fam k=some H:=strike_same fun j n els ro fl hj=>.inl (h j n els ro fl hj)
theorem Lone.strike1 {H:Heap} {r fam:Nat} (h:Lone H r fam) (hf:fam<H.length) (n:Nat) (els:List AV) (k:Nat):(H++[Blk.row n els false true H.length]).strike r fam k=some (H++[Blk.row n els false true H.length]):=strike_same fun j n els ro fl hj=>by
  left
  by_cases hl:j<H.length
  · rw[List.getElem?_append_left hl] at hj
    exact h _ _ _ _ _ hj
  · rw[List.getElem?_append_right (by omega)] at hj
    have h0:j-H.length=0:=by
      have:=(List.getElem?_eq_some_iff.1 hj).1
      simp at this
      omega
    rw[h0] at hj
    cases hj
    omega
theorem Lone.strikeG {H:Heap} {r fam:Nat} (h:Lone H r fam) (k:Nat):strikeGo r fam k H 0=some H:=h.strike k
theorem Lone.strikeG1 {H:Heap} {r fam:Nat} (h:Lone H r fam) (hf:fam<H.length) (n:Nat) (els:List AV) (k:Nat):strikeGo r fam k (H++[Blk.row n els false true H.length]) 0=some (H++[Blk.row n els false true H.length]):=h.strike1 hf n els k
theorem Cl.set {H:Heap} (h:Cl H) (r n:Nat) (els:List AV) (fam:Nat) (hf:fam<H.length):Cl (H.set r (.row n els false true fam)):=by
  refine ⟨fun b hb q hq=>?_, fun b hb f g hf2 hg2=>?_⟩
  · rw[List.length_set]
    rcases List.mem_or_eq_of_mem_set hb with hb | rfl
    · exact h.refs b hb q hq
    · simp [Blk.refs] at hq
  · rw[List.length_set] at hf2 hg2
    rcases List.mem_or_eq_of_mem_set hb with hb | rfl
    · exact h.ren b hb f g hf2 hg2
    · simp [Blk.ren, hg2 fam hf]
theorem ro_nilW : ∀ b, b∈([]:Heap)→b.roB=false:=fun b h=>by cases h
theorem ro_two {a b:Blk} (ha:a.roB=false) (hb:b.roB=false) : ∀ x, x∈[a, b]→x.roB=false:=fun x h=>by
  rcases List.mem_cons.1 h with rfl | h
  · exact ha
  · rw[List.mem_singleton.1 h]
    exact hb
theorem renOf_self {m q:Nat} (h:m≤q):renOf m [q] q=some m:=by
  unfold renOf
  rw[if_neg (by omega)]
  simp [List.idxOf?, List.findIdx?, List.findIdx?.go]
theorem renOf_less {m r:Nat} (ks:List Nat) (h:r<m):renOf m ks r=some r:=by
  unfold renOf
  rw[if_pos h]
theorem reach_sole {H:Heap} {base k q:Nat} {b:Blk} (h1:base≤q) (h2:H[q]?=some b) (h3:b.refs=[]):reach H base (k+2) [q] []=[q]:=by
  rw[reach, if_neg (by omega), if_neg (by simp), h2]
  simp only[h3, List.nil_append]
  rfl
/-- A result that is a new row. -/
theorem post_new {m:Nat} {res:List ResV} {H E:Heap} {tm:List AV} {b rb q k n fam fam':Nat} {els:List AV} {e:Ex} (he:e = .normal∨e = .ret) (hfam:(if fam<m then fam else m)=fam') (hres:results res ⟨tm, H++E, b, rb⟩=some (.sref k q 0 n)) (hm:m=H.length) (hC:Cl H) (hE : ∀ b, b∈E→b.roB=false) (hq:m≤q)
    (hb:(H++E)[q]?=some (.row k els false true fam)):PostC m res (.sref k m 0 n) (H++[.row k els false true fam']) e ⟨tm, H++E, b, rb⟩:=by
  subst hfam
  refine postC_of (ks:=[q]) he hres hm hC hE (reach_sole hq hb rfl) (fun r hr=>?_) ?_ ?_
  · rw[List.mem_singleton.1 hr, List.getD_eq_getElem?_getD, hb]
    rfl
  · simp only[AV.renN, renOf_self hq]
  · simp only[List.map_cons, List.map_nil, List.getD_eq_getElem?_getD, hb, Option.getD_some, Blk.ren, if_true, famRen]
    congr 2
    split
    · rfl
    · simp [List.findIdx, List.findIdx.go, hb, Blk.famOf]
/-- A result that lies below. -/
theorem post_old {m:Nat} {res:List ResV} {H:Heap} {tm:List AV} {b rb q k n:Nat} {e:Ex} (he:e = .normal∨e = .ret) (hres:results res ⟨tm, H, b, rb⟩=some (.sref k q 0 n)) (hm:m=H.length) (hC:Cl H) (hq:q<m):PostC m res (.sref k q 0 n) H e ⟨tm, H, b, rb⟩:=by
  have:=postC_of (E:=[]) (ks:=[]) (K:=[]) (v:=.sref k q 0 n) (u:=.sref k q 0 n) (tm:=tm) (b:=b) (rb:=rb) (res:=res) he (by rw[List.append_nil]; exact hres) hm hC ro_nilW (reach_lowC _ _ _ _ _ fun r hr=>by
    rw[show AV.refsN 6 (.sref k q 0 n)=[q] from rfl, List.mem_singleton] at hr
    omega) (by simp) (by simp only[AV.renN, renOf_less [] hq]) rfl
  rw[List.append_nil] at this
  exact this
theorem addArc_nil {H:Heap} (hC:Cl H) (lo hi nx:Int):RunOf CB 390 [.snil 3, .int .i64 lo, .int .i64 hi, .int .i64 nx] H (.sref 3 H.length 0 1) (H++[.row 3 [encArc ⟨lo, hi, nx⟩] false true H.length]):=by
  refine runC_of ac390 rfl ?_
  (repeat' first|simp (disch:=omega) only[go_sem, ac390, enter, gP0, gL, sL, sP0, List.length_append, List.append_assoc, List.length_cons, List.length_nil]|(apply spl<;>intro h<;>try simp (disch:=omega) only[go_sem, ac390, enter, gP0, gL, sL, sP0, List.length_append, List.append_assoc, List.length_cons, List.length_nil, h]))
  exact post_new (q:=H.length+1) (fam:=H.length+1) (E:=[.row 3 [encArc ⟨lo, hi, nx⟩] false true H.length, .row 3 [encArc ⟨lo, hi, nx⟩] false true (H.length+1)]) (.inr rfl) (if_neg (by omega)) rfl rfl hC (ro_two rfl rfl) (by omega) (by simp)
theorem addArc_diff {H:Heap} (hC:Cl H) {r fam:Nat} {l:List Arc} {a:Arc} (hr:H[r]?=some (.row 3 ((l++[a]).map encArc) false true fam)) (hl:Lone H r fam) (hf:fam<H.length) (hn:l.length<2^20) (lo hi nx:Int) (hd : ¬ a.next=nx) :
    RunOf CB 390 [.sref 3 r 0 (l.length+1), .int .i64 lo, .int .i64 hi, .int .i64 nx] H (.sref 3 H.length 0 (l.length+2)) (H++[.row 3 ((l++[a]++[(⟨lo, hi, nx⟩:Arc)]).map encArc) false true fam]):=by
  have hrl:r<H.length:=(List.getElem?_eq_some_iff.1 hr).1
  obtain ⟨R, hR⟩ : ∃ R, R=(l++[a]).map encArc:=⟨_, rfl⟩
  have hRl:R.length=l.length+1:=by rw[hR, List.length_map, List.length_append]; rfl
  have hRa:R[l.length]?=some (.agg [.int .i64 a.lo, .int .i64 a.hi, .int .i64 a.next]):=by
    rw[hR, List.map_append, List.getElem?_append_right (by rw[List.length_map]; omega), List.length_map, Nat.sub_self]
    rfl
  have e2:(((l.length+1:Nat):Int)-1).toNat=l.length:=by omega
  have hs:=fun els k=>hl.strikeG1 hf 3 els k
  rw[←hR] at hr
  refine runC_of ac390 rfl ?_
  (repeat' first|simp (disch:=omega) only[go_sem, ac390, enter, gP0, gL, sL, sP0, hr, hRl, hRa, e2, hd, hs, List.length_append, List.append_assoc, List.length_cons, List.length_nil]|(apply spl<;>intro h<;>try simp (disch:=omega) only[go_sem, ac390, enter, gP0, gL, sL, sP0, hr, hRl, hRa, e2, hd, hs, List.length_append, List.append_assoc, List.length_cons, List.length_nil, h]))
  have hm:(l++[a, (⟨lo, hi, nx⟩:Arc)]).map encArc=R++[encArc ⟨lo, hi, nx⟩]:=by rw[hR]; simp
  rw[hm]
  exact post_new (q:=H.length+1) (fam:=fam) (els:=R++[encArc ⟨lo, hi, nx⟩]) (E:=[.row 3 [encArc ⟨lo, hi, nx⟩] false true H.length, .row 3 (R++[encArc ⟨lo, hi, nx⟩]) false true fam]) (.inr rfl) (if_pos hf) rfl rfl hC (ro_two rfl rfl) (by omega) (by simp)
theorem addArc_same {H:Heap} (hC:Cl H) {r fam:Nat} {l:List Arc} {a:Arc} (hr:H[r]?=some (.row 3 ((l++[a]).map encArc) false true fam)) (hl:Lone H r fam) (hf:fam<H.length) (hn:l.length<2^20) (lo hi nx:Int) (hd:a.next=nx) :
    RunOf CB 390 [.sref 3 r 0 (l.length+1), .int .i64 lo, .int .i64 hi, .int .i64 nx] H (.sref 3 r 0 (l.length+1)) (H.set r (.row 3 ((l++[(⟨a.lo, hi, a.next⟩:Arc)]).map encArc) false true fam)):=by
  have hrl:r<H.length:=(List.getElem?_eq_some_iff.1 hr).1
  obtain ⟨R, hR⟩ : ∃ R, R=(l++[a]).map encArc:=⟨_, rfl⟩
  have hRl:R.length=l.length+1:=by rw[hR, List.length_map, List.length_append]; rfl
  have hRa:R[l.length]?=some (.agg [.int .i64 a.lo, .int .i64 a.hi, .int .i64 a.next]):=by
    rw[hR, List.map_append, List.getElem?_append_right (by rw[List.length_map]; omega), List.length_map, Nat.sub_self]
    rfl
  have hRs : ∀ x, R.set l.length x=l.map encArc++[x]:=fun x=>by
    rw[hR, List.map_append, List.set_append_right _ _ (by rw[List.length_map]; omega), List.length_map, Nat.sub_self]
    rfl
  have e2:(((l.length+1:Nat):Int)-1).toNat=l.length:=by omega
  have hs:=fun k=>hl.strikeG k
  rw[←hR] at hr
  refine runC_of ac390 rfl ?_
  (repeat' first|simp (disch:=omega) only[go_sem, ac390, enter, gP0, gL, sL, sP0, hr, hRl, hRa, hRs, e2, hd, hs]|(apply spl<;>intro h<;>try simp (disch:=omega) only[go_sem, ac390, enter, gP0, gL, sL, sP0, hr, hRl, hRa, hRs, e2, hd, hs, h]))
  have hm:(l++[(⟨a.lo, hi, a.next⟩:Arc)]).map encArc=l.map encArc++[encArc ⟨a.lo, hi, a.next⟩]:=by rw[List.map_append]; rfl
  rw[hd] at hm
  rw[hm]
  exact post_old (.inr rfl) rfl (by rw[List.length_set]) (hC.set r 3 _ fam hf) hrl
end Ago
/- Least automata: maps that number their keys; states in the order in which they are met; the plain machine. -/
set_option maxRecDepth 100000
set_option maxHeartbeats 4000000
namespace Ago
open Go (IntKind)
def nmGo:Nat→List AV→List (AV × AV)
  | _, []=>[]
  | i, k::l=>(k, .int .i64 i)::nmGo (i+1) l
def nmE (l:List AV):List (AV × AV):=nmGo 0 l
theorem nmGo_snoc : ∀ (i:Nat) (l:List AV) (k:AV), nmGo i (l++[k])=nmGo i l++[(k, .int .i64 ((i+l.length:Nat):Int))]
  | i, [], k=>rfl
  | i, x::l, k=>by
    rw[List.cons_append, nmGo, nmGo_snoc (i+1) l k, nmGo, List.cons_append, List.length_cons, show i+1+l.length=i+(l.length+1) by omega]
theorem nmE_snoc (l:List AV) (k:AV):nmE l++[(k, .int .i64 (l.length:Int))]=nmE (l++[k]):=by
  unfold nmE
  rw[nmGo_snoc, Nat.zero_add]
theorem nmGo_len : ∀ (i:Nat) (l:List AV), (nmGo i l).length=l.length
  | _, []=>rfl
  | i, x::l=>by rw[nmGo, List.length_cons, nmGo_len (i+1) l, List.length_cons]
theorem nmE_len (l:List AV):(nmE l).length=l.length:=nmGo_len 0 l
def Stil (x:AV):Prop:=AV.refsN 6 x=[]∧∀ f, AV.renN f 6 x=x
theorem nmGo_still : ∀ (i:Nat) (l:List AV), (∀ x, x∈l→Stil x)→(nmGo i l).flatMap (fun x=>AV.refsN 6 x.1++AV.refsN 6 x.2)=[]∧∀ f, (nmGo i l).map (fun x=>(AV.renN f 6 x.1, AV.renN f 6 x.2))=nmGo i l
  | _, [], _=>⟨rfl, fun _=>rfl⟩
  | i, x::l, h=>by
    obtain ⟨h1, h2⟩:=nmGo_still (i+1) l fun y hy=>h y (List.mem_cons_of_mem _ hy)
    obtain ⟨h3, h4⟩:=h x (List.mem_cons_self ..)
    refine ⟨?_, fun f=>?_⟩
    · rw[nmGo, List.flatMap_cons, h1, List.append_nil, h3]
      rfl
    · rw[nmGo, List.map_cons, h2 f, h4 f]
      rfl
theorem nmE_refs {l:List AV} (h : ∀ x, x∈l→Stil x):(Blk.map (nmE l)).refs=[]:=(nmGo_still 0 l h).1
theorem nmE_ren {l:List AV} (h : ∀ x, x∈l→Stil x) (f:Nat→Option Nat) (g:Nat→Nat):Blk.ren f g (.map (nmE l)) = .map (nmE l):=by
  exact congrArg Blk.map ((nmGo_still 0 l h).2 f)
theorem still_nums (l:List Nat) : ∀ x, x∈l.map encN→Stil x:=fun x h=>by
  obtain ⟨n, _, rfl⟩:=List.mem_map.1 h
  exact ⟨rfl, fun _=>rfl⟩
theorem still_strs (l:List (List UInt8)) : ∀ x, x∈l.map AV.str→Stil x:=fun x h=>by
  obtain ⟨n, _, rfl⟩:=List.mem_map.1 h
  exact ⟨rfl, fun _=>rfl⟩
theorem find_num (x:Nat) : ∀ (l:List Nat) (i j:Nat), findKey (.one .int) (.int .i64 x) (nmGo i (l.map encN)) j=some (if x∈l then some (j+l.idxOf x, .int .i64 ((i+l.idxOf x:Nat):Int)) else none)
  | [], _, _=>rfl
  | y::l, i, j=>by
    rw[List.map_cons, nmGo, findKey]
    have e:keyEq (.one .int) (.int .i64 x) (encN y)=some (decide ((x:Int)=y)):=by
      simp only[keyEq, cellEq, encN, if_true]
      congr 1
    rw[e]
    by_cases h:x=y
    · subst h
      simp
    · have h1 : ¬ (x:Int)=y:=by omega
      rw[decide_eq_false h1]
      simp only
      rw[find_num x l]
      have h2:(y == x)=false:=by simpa using fun e:y=x=>h e.symm
      rw[List.idxOf_cons, h2]
      simp only[List.mem_cons, h, false_or, cond_false]
      by_cases hm:x∈l
      · rw[if_pos hm, if_pos hm]
        simp only[Option.some.injEq, Prod.mk.injEq, AV.int.injEq, true_and]
        omega
      · rw[if_neg hm, if_neg hm]
theorem idx_cons {K:Type} [DecidableEq K] (x y:K) (l:List K) (h : ¬ x=y):(y::l).idxOf x=l.idxOf x+1:=by
  have e:(y == x)=false:=by simpa using fun e:y=x=>h e.symm
  rw[List.idxOf_cons, e]
  rfl
theorem find_str (x:List UInt8) : ∀ (l:List (List UInt8)) (i j:Nat), findKey (.one .str) (.str x) (nmGo i (l.map AV.str)) j=some (if x∈l then some (j + @List.idxOf _ instBEqOfDecidableEq x l, .int .i64 ((i + @List.idxOf _ instBEqOfDecidableEq x l:Nat):Int)) else none)
  | [], _, _=>rfl
  | y::l, i, j=>by
    rw[List.map_cons, nmGo, findKey]
    have e:keyEq (.one .str) (.str x) (.str y)=some (decide (x=y)):=by
      simp only[keyEq, cellEq]
      congr 1
      by_cases h:x=y<;>simp [h]
    rw[e]
    by_cases h:x=y
    · subst h
      simp
    · rw[decide_eq_false h]
      simp only
      rw[find_str x l]
      rw[idx_cons x y l h]
      simp only[List.mem_cons, h, false_or, cond_false]
      by_cases hm:x∈l
      · rw[if_pos hm, if_pos hm]
        simp only[Option.some.injEq, Prod.mk.injEq, AV.int.injEq, true_and]
        omega
      · rw[if_neg hm, if_neg hm]
/-- One target more. -/
theorem ordGo_snoc (c:List Nat) (t:Nat) : ∀ (l o:List Nat), ordGo c o (l++[t])=if clO c t∈(ordGo c o l).2.map (clO c) then ((ordGo c o l).1++[((ordGo c o l).2.map (clO c)).idxOf (clO c t)], (ordGo c o l).2) else ((ordGo c o l).1++[(ordGo c o l).2.length], (ordGo c o l).2++[t])
  | [], o=>by
    rw[List.nil_append, ordGo_nil]
    by_cases h:clO c t∈o.map (clO c)
    · rw[ordGo_in [] h, ordGo_nil, if_pos h]
      rfl
    · rw[ordGo_new [] h, ordGo_nil, if_neg h]
      rfl
  | x::l, o=>by
    rw[List.cons_append]
    by_cases h:clO c x∈o.map (clO c)
    · rw[ordGo_in _ h, ordGo_in _ h, ordGo_snoc c t l o]
      by_cases h2:clO c t∈(ordGo c o l).2.map (clO c)
      · rw[if_pos h2, if_pos h2]
        rfl
      · rw[if_neg h2, if_neg h2]
        rfl
    · rw[ordGo_new _ h, ordGo_new _ h, ordGo_snoc c t l (o++[x])]
      by_cases h2:clO c t∈(ordGo c (o++[x]) l).2.map (clO c)
      · rw[if_pos h2, if_pos h2]
        rfl
      · rw[if_neg h2, if_neg h2]
        rfl
theorem ordGo_len (c:List Nat) : ∀ (l o:List Nat), (ordGo c o l).1.length=l.length
  | [], o=>rfl
  | x::l, o=>by
    by_cases h:clO c x∈o.map (clO c)
    · rw[ordGo_in _ h, List.length_cons, ordGo_len c l o, List.length_cons]
    · rw[ordGo_new _ h, List.length_cons, ordGo_len c l _, List.length_cons]
theorem arcK_pre (at' tg:List Nat) (x:List Nat) : ∀ k, k≤tg.length→arcK at' (tg++x) k=arcK at' tg k
  | 0, _=>rfl
  | k+1, h=>by
    rw[arcK, arcK, arcK_pre at' tg x k (by omega)]
    congr 1
    rw[List.getD_eq_getElem?_getD, List.getD_eq_getElem?_getD, List.getElem?_append_left (by omega)]
/-- The states of the classes, in the order in which they are met. -/
def accM (m:List Sta) (q:Nat):Bool:=match m[q]? with
  | some s=>s.acc
  | none=>false
def numG (m:List Sta) (at':List Nat) (nx:List (List Nat)) (c:List Nat):Nat→Nat→List Nat→List Sta→List Sta
  | 0, _, _, out=>out
  | f+1, i, o, out=>if i<o.length then
      numG m at' nx c f (i+1) (ordGo c o (nx.getD (o.getD i 0) [])).2 (out++[⟨accM m (o.getD i 0), arcK at' (ordGo c o (nx.getD (o.getD i 0) [])).1 at'.length⟩])
    else out
theorem numG_go {m:List Sta} {at':List Nat} {nx:List (List Nat)} {c:List Nat} {f i:Nat} {o:List Nat} {out:List Sta} (h:i<o.length):numG m at' nx c (f+1) i o out=numG m at' nx c f (i+1) (ordGo c o (nx.getD (o.getD i 0) [])).2 (out++[⟨accM m (o.getD i 0), arcK at' (ordGo c o (nx.getD (o.getD i 0) [])).1 at'.length⟩]):=by
  conv=>lhs; unfold numG
  rw[if_pos h]
theorem numG_end {m:List Sta} {at':List Nat} {nx:List (List Nat)} {c:List Nat} {f i:Nat} {o:List Nat} {out:List Sta} (h : ¬ i<o.length):numG m at' nx c f i o out=out:=by
  cases f with
  | zero=>rfl
  | succ f=>
    conv=>lhs; unfold numG
    rw[if_neg h]
def numM (m:List Sta) (at':List Nat) (nx:List (List Nat)) (c:List Nat):List Sta:=numG m at' nx c (m.length+1) 0 [0] []
/-- What is known at the head of the outer loop. -/
structure NumI (m:List Sta) (at':List Nat) (nx:List (List Nat)) (c:List Nat) (R:List Sta) (i:Nat) (o:List Nat) (out:List Sta):Prop where
  res : ∃ f, numG m at' nx c f i o out=R∧m.length+1≤f+i
  le:i≤o.length
  len:out.length=i
  low : ∀ t, t∈o→t<m.length
  nd:(o.map (clO c)).Nodup
  pos:o≠[]
theorem nodup_of_map {f:Nat→Nat} : ∀ {l:List Nat}, (l.map f).Nodup→l.Nodup
  | [], _=>List.nodup_nil
  | x::l, h=>by
    rw[List.map_cons, List.nodup_cons] at h
    rw[List.nodup_cons]
    exact ⟨fun hx=>h.1 (List.mem_map_of_mem hx), nodup_of_map h.2⟩
theorem ord_small {m:List Sta} {c o:List Nat} (hl : ∀ t, t∈o→t<m.length) (hn:(o.map (clO c)).Nodup):o.length≤m.length:=by
  have:=nodup_le (l:=o) (m:=List.range m.length) (nodup_of_map hn) fun x hx=>List.mem_range.2 (hl x hx)
  simpa using this
theorem NumI.small {m:List Sta} {at':List Nat} {nx:List (List Nat)} {c:List Nat} {R:List Sta} {i:Nat} {o:List Nat} {out:List Sta} (h:NumI m at' nx c R i o out):o.length≤m.length:=ord_small h.low h.nd
theorem NumI.init {m:List Sta} {at':List Nat} {nx:List (List Nat)} {c:List Nat} (h:1≤m.length):NumI m at' nx c (numM m at' nx c) 0 [0] []:=
  ⟨⟨m.length+1, rfl, Nat.le_refl _⟩, Nat.zero_le _, rfl, fun t ht=>by rw[List.mem_singleton.1 ht]; omega, by simp, by simp⟩
theorem ordGo_low {c:List Nat} {n:Nat} {l o:List Nat} (h1 : ∀ t, t∈o→t<n) (h2 : ∀ t, t∈l→t<n) : ∀ t, t∈(ordGo c o l).2→t<n:=fun t ht=>by
  obtain ⟨u, h3, h4⟩:=ordGo_grow c l o
  rw[h3] at ht
  rcases List.mem_append.1 ht with ht | ht
  · exact h1 t ht
  · exact h2 t (h4 t ht)
theorem NumI.step {m:List Sta} {at':List Nat} {nx:List (List Nat)} {c:List Nat} {R:List Sta} {i:Nat} {o:List Nat} {out:List Sta} (h:NumI m at' nx c R i o out) (hlt:i<o.length) (hnx : ∀ t, t∈nx.getD (o.getD i 0) []→t<m.length) :
    NumI m at' nx c R (i+1) (ordGo c o (nx.getD (o.getD i 0) [])).2 (out++[⟨accM m (o.getD i 0), arcK at' (ordGo c o (nx.getD (o.getD i 0) [])).1 at'.length⟩]):=by
  obtain ⟨f, h1, h2⟩:=h.res
  have hs:=h.small
  obtain ⟨u, h3, _⟩:=ordGo_grow c (nx.getD (o.getD i 0) []) o
  cases f with
  | zero=>omega
  | succ f=>
    rw[numG_go hlt] at h1
    refine ⟨⟨f, h1, by omega⟩, by rw[h3, List.length_append]; omega, by rw[List.length_append, h.len]; rfl, ordGo_low h.low hnx, ordGo_nodup c _ _ h.nd, fun e=>?_⟩
    rw[h3] at e
    exact h.pos (List.append_eq_nil_iff.1 e).1
theorem NumI.done {m:List Sta} {at':List Nat} {nx:List (List Nat)} {c:List Nat} {R:List Sta} {i:Nat} {o:List Nat} {out:List Sta} (h:NumI m at' nx c R i o out) (hlt : ¬ i<o.length):R=out:=by
  obtain ⟨f, h1, _⟩:=h.res
  rw[numG_end hlt] at h1
  exact h1.symm
end Ago
