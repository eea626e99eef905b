/- The reference: from which states a string of a length is accepted. -/
import Derived.Test.YtjmhldkncidpiaaGreatDoorRunA
set_option linter.unusedSimpArgs false
set_option linter.unusedVariables false
set_option maxRecDepth 100000
set_option maxHeartbeats 8000000
namespace Ago
open Go (IntKind)
def bk (done:List Bool) (q n:Nat):List AV:=(done.take q).map .bool++List.replicate (n-q) (.bool false)
def bw (done:List Bool) (q:Nat) (v:Bool) (n:Nat):List AV:=(done.take q).map .bool ++ .bool v::List.replicate (n-q-1) (.bool false)
theorem bk_len {done:List Bool} {q n:Nat} (h:q≤n) (hd:done.length=n):(bk done q n).length=n:=by
  simp [bk]
  omega
theorem bw_len {done:List Bool} {q n:Nat} {v:Bool} (h:q<n) (hd:done.length=n):(bw done q v n).length=n:=by
  simp [bw]
  omega
theorem bk_bw {done:List Bool} {q n:Nat} (h:q<n):bk done q n=bw done q false n:=by
  unfold bk bw
  rw[show n-q=(n-q-1)+1 by omega, List.replicate_succ]
  simp
theorem bw_get {done:List Bool} {q n:Nat} {v:Bool} (h:q<n) (hd:done.length=n):(bw done q v n)[q]?=some (.bool v):=by
  unfold bw
  rw[List.getElem?_append_right (by simp; omega)]
  have:q-((done.take q).map AV.bool).length=0:=by simp; omega
  rw[this]
  rfl
theorem bw_set {done:List Bool} {q n:Nat} {v w:Bool} (h:q<n) (hd:done.length=n):(bw done q v n).set q (.bool w)=bw done q w n:=by
  unfold bw
  rw[List.set_append_right _ _ (by simp; omega)]
  have:q-((done.take q).map AV.bool).length=0:=by simp; omega
  rw[this]
  rfl
theorem bw_bk {done:List Bool} {q n:Nat} {v:Bool} (h:done[q]?=some v):bw done q v n=bk done (q+1) n:=by
  unfold bk bw
  rw[List.take_add_one, h, show n-(q+1)=n-q-1 by omega]
  simp
theorem bk_zero (done:List Bool) (n:Nat):bk done 0 n=List.replicate n (.bool false):=by simp [bk]
theorem bk_all {done:List Bool} {n:Nat} (hd:done.length=n):bk done n n=done.map .bool:=by
  unfold bk
  rw[List.take_of_length_le (by omega)]
  simp
def befM (m:List Sta) (l:List Bool):List Bool:=m.map fun s=>s.arcs.any fun a=>l.getD a.next.toNat false
theorem before_run (m:List Sta) (hs:SmallM m) (hv:validM m=true) (l:List Bool) (hl:l.length=m.length):PRun CB 394 [encMa m, .tsl 1 (l.map .bool)] (.tsl 1 ((befM m l).map .bool)):=by
  have hm:=hs.1
  have hv1:=valid_len hv
  have hme:encMa m = .agg [.tsl 2 (m.map encSta)]:=rfl
  have hdl:(befM m l).length=m.length:=by simp [befM]
  have hne : ¬ ((m.length:Int)=0):=by omega
  refine prun_of ac394 rfl ?_
  rw[hme]
  (repeat' first|simp (disch:=omega) only[go_sem, ac394, enter, List.length_map, hl, hne, if_false]|(apply spl<;>intro h<;>try simp (disch:=omega) only[go_sem, ac394, enter, List.length_map, hl, hne, if_false, h]))
  all_goals first | omega | skip
  refine loop_of (α:=Nat) (fun q=>{ tmps:=slots 51 [(1, .tsl 1 (l.map .bool)), (2, .ptr 1 0 0 0), (5, .sref 1 1 0 m.length), (6, .int .i64 q)], heap:=[.row 1 [encMa m] false true 0, .row 1 (bk (befM m l) q m.length) false true 1], base:=0 }) (fun q=>q≤m.length) (fun q=>m.length-q) 0 (by rw[hme, bk_zero]; rfl) (Nat.zero_le _) ?_
  intro q hq
  rw[hme]
  have hbl:=bk_len hq hdl
  by_cases hlt:q<m.length
  · obtain ⟨x, hx⟩:=exAt hlt
    have hx2:(m.map encSta)[q]?=some (.agg [.bool x.acc, .tsl 3 (x.arcs.map encArc)]):=mget hx
    have hxm:=List.mem_of_getElem? hx
    have hal:=hs.2 x hxm
    have hok:=valid_arcs hv hxm
    have hdq:(befM m l)[q]?=some (x.arcs.any fun a=>l.getD a.next.toNat false):=by simp [befM, hx]
    (repeat' first|simp (disch:=omega) only[go_sem, hx2, List.length_map, hl]|(apply spl<;>intro h<;>try simp (disch:=omega) only[go_sem, hx2, List.length_map, hl, h]))
    all_goals first | omega | skip
    refine loop_of (α:=Nat) (fun k=>{ tmps:=slots 51 [(1, .tsl 1 (l.map .bool)), (2, .ptr 1 0 0 0), (5, .sref 1 1 0 m.length), (6, .int .i64 q), (7, .int .i64 k)], heap:=[.row 1 [encMa m] false true 0, .row 1 (bw (befM m l) q ((x.arcs.take k).any fun a=>l.getD a.next.toNat false) m.length) false true 1], base:=0 }) (fun k=>k≤x.arcs.length) (fun k=>x.arcs.length-k) 0 (by rw[hme, bk_bw hlt]; rfl) (Nat.zero_le _) ?_
    intro k hk
    rw[hme]
    obtain ⟨v, hvv⟩ : ∃ v, ((x.arcs.take k).any fun a=>l.getD a.next.toNat false)=v:=⟨_, rfl⟩
    rw[hvv]
    have hwl:=bw_len (v:=v) hlt hdl
    have hwg:=bw_get (v:=v) hlt hdl
    by_cases hkl:k<x.arcs.length
    · obtain ⟨a, ha⟩:=exAt hkl
      have ha2:(x.arcs.map encArc)[k]?=some (.agg [.int .i64 a.lo, .int .i64 a.hi, .int .i64 a.next]):=mget ha
      obtain ⟨j1, j2, j3, j4, j5, j6⟩:=arcs_hit x.arcs 0 hok (Int.le_refl _) a (List.mem_of_getElem? ha)
      obtain ⟨c, hc⟩:=exAt (l:=l) (k:=a.next.toNat) (by omega)
      have hc2:(l.map AV.bool)[a.next.toNat]?=some (.bool c):=mget hc
      have hcg:l.getD a.next.toNat false=c:=by rw[List.getD_eq_getElem?_getD, hc]; rfl
      have hnew:((x.arcs.take (k+1)).any fun a=>l.getD a.next.toNat false)=(v || c):=by
        rw[List.take_add_one, ha, List.any_append, hvv]
        simp [hc]
      have hst:=fun w=>bw_set (v:=v) (w:=w) hlt hdl
      cases v with
      | true=>
        (repeat' first|simp (disch:=omega) only[go_sem, hx2, ha2, hc2, hwl, hwg, hst, List.length_map, hl]|(apply spl<;>intro h<;>try simp (disch:=omega) only[go_sem, hx2, ha2, hc2, hwl, hwg, hst, List.length_map, hl, h]))
        all_goals first | omega | skip
        refine ⟨k+1, ?_, hkl, by omega⟩
        rw[hnew]
        rfl
      | false=>
        (repeat' first|simp (disch:=omega) only[go_sem, hx2, ha2, hc2, hwl, hwg, hst, List.length_map, hl]|(apply spl<;>intro h<;>try simp (disch:=omega) only[go_sem, hx2, ha2, hc2, hwl, hwg, hst, List.length_map, hl, h]))
        all_goals first | omega | skip
        refine ⟨k+1, ?_, hkl, by omega⟩
        rw[hnew]
        rfl
    · rw[List.take_of_length_le (by omega)] at hvv
      rw[hvv] at hdq
      (repeat' first|simp (disch:=omega) only[go_sem, hx2, hwl, hwg, List.length_map, hl]|(apply spl<;>intro h<;>try simp (disch:=omega) only[go_sem, hx2, hwl, hwg, List.length_map, hl, h]))
      all_goals first | omega | skip
      refine ⟨q+1, ?_, hlt, by omega⟩
      rw[←bw_bk hdq]
      rfl
  · have hq2:q=m.length:=by omega
    rw[hq2, bk_all hdl]
    have hdl2:((befM m l).map AV.bool).length=m.length:=by rw[List.length_map]; exact hdl
    have htk:((befM m l).map AV.bool).take m.length=(befM m l).map AV.bool:=List.take_of_length_le (by omega)
    (repeat' first|simp (disch:=omega) only[go_sem, List.length_map, hl, hdl, hdl2, htk]|(apply spl<;>intro h<;>try simp (disch:=omega) only[go_sem, List.length_map, hl, hdl, hdl2, htk, h]))
    all_goals first | omega | skip
theorem rowM_succ (m:List Sta) (n:Nat):rowM m (n+1)=befM m (rowM m n):=(rfl)
def rcSt (m:List Sta) (n:Int):Nat→St
  | 0=>{ tmps:=slots 36 [(1, .int .i64 n), (2, .ptr 1 0 0 0), (5, .sref 1 1 0 m.length), (7, .int .i64 0)], heap:=[.row 1 [encMa m] false true 0, .row 1 ((rowM m 0).map .bool) false true 1], base:=0 }
  | k+1=>{ tmps:=slots 36 [(1, .int .i64 n), (2, .ptr 1 0 0 0), (5, .tsl 1 ((rowM m (k+1)).map .bool)), (7, .int .i64 ((k:Int)+1))], heap:=[.row 1 [encMa m] false true 0], base:=0 }
theorem reach_run (m:List Sta) (hs:SmallM m) (hv:validM m=true) (n:Nat) (hn:n<2^30):PRun CB 369 [encMa m, .int .i64 n] (.tsl 1 ((rowM m n).map .bool)):=by
  have hm:=hs.1
  have hv1:=valid_len hv
  have hme:encMa m = .agg [.tsl 2 (m.map encSta)]:=rfl
  have hdl:=rowM_len m 0
  have hne : ¬ ((m.length:Int)=0):=by omega
  refine prun_of ac369 rfl ?_
  rw[hme]
  (repeat' first|simp (disch:=omega) only[go_sem, ac369, enter, List.length_map, hne, if_false]|(apply spl<;>intro h<;>try simp (disch:=omega) only[go_sem, ac369, enter, List.length_map, hne, if_false, h]))
  all_goals first | omega | skip
  refine loop_of (α:=Nat) (fun q=>{ tmps:=slots 36 [(1, .int .i64 n), (2, .ptr 1 0 0 0), (5, .sref 1 1 0 m.length), (6, .int .i64 q)], heap:=[.row 1 [encMa m] false true 0, .row 1 (bk (rowM m 0) q m.length) false true 1], base:=0 }) (fun q=>q≤m.length) (fun q=>m.length-q) 0 (by rw[hme, bk_zero]; rfl) (Nat.zero_le _) ?_
  intro q hq
  rw[hme]
  have hbl:=bk_len hq hdl
  by_cases hlt:q<m.length
  · obtain ⟨x, hx⟩:=exAt hlt
    have hx2:(m.map encSta)[q]?=some (.agg [.bool x.acc, .tsl 3 (x.arcs.map encArc)]):=mget hx
    have hdq:(rowM m 0)[q]?=some x.acc:=rowM_at hx 0
    have hset:(bk (rowM m 0) q m.length).set q (.bool x.acc)=bk (rowM m 0) (q+1) m.length:=by
      rw[bk_bw hlt, bw_set hlt hdl, bw_bk hdq]
    have hg:(bk (rowM m 0) q m.length)[q]?=some (.bool false):=by rw[bk_bw hlt]; exact bw_get hlt hdl
    (repeat' first|simp (disch:=omega) only[go_sem, hx2, hbl, hset, hg, List.length_map]|(apply spl<;>intro h<;>try simp (disch:=omega) only[go_sem, hx2, hbl, hset, hg, List.length_map, h]))
    all_goals first | omega | skip
    refine ⟨q+1, ?_, hlt, by omega⟩
    rfl
  · have hq2:q=m.length:=by omega
    rw[hq2, bk_all hdl]
    (repeat' first|simp (disch:=omega) only[go_sem, List.length_map, hdl]|(apply spl<;>intro h<;>try simp (disch:=omega) only[go_sem, List.length_map, hdl, h]))
    all_goals first | omega | skip
    refine loop_of (α:=Nat) (rcSt m n) (fun k=>k≤n) (fun k=>n-k) 0 (by unfold rcSt; rw[hme]; rfl) (Nat.zero_le _) ?_
    intro k hk
    cases k with
    | zero=>
      unfold rcSt
      rw[hme]
      have hb:=before_run m hs hv (rowM m 0) hdl
      rw[←rowM_succ, hme] at hb
      have htk:((rowM m 0).map AV.bool).take m.length=(rowM m 0).map AV.bool:=List.take_of_length_le (by rw[List.length_map, hdl]; exact Nat.le_refl _)
      have hl2:((rowM m 0).map AV.bool).length=m.length:=by rw[List.length_map, hdl]
      by_cases hlt:0<n
      · (repeat' first|simp (disch:=omega) only[go_sem, hl2, htk, List.length_map, hdl, markFrom, Blk.mark, List.contains_cons, List.contains_nil, Bool.or_false]|refine pure_of _ (hb) ?_|(apply spl<;>intro h<;>try simp (disch:=omega) only[go_sem, hl2, htk, List.length_map, hdl, markFrom, Blk.mark, List.contains_cons, List.contains_nil, Bool.or_false , h]))
        all_goals first | omega | skip
        refine ⟨1, ?_, by omega, by omega⟩
        first | rfl | (unfold rcSt; rw[hme]; rfl) | (rw[hme]; rfl)
      · have hn0:n=0:=by omega
        subst hn0
        (repeat' first|simp (disch:=omega) only[go_sem, hl2, htk, List.length_map, hdl]|(apply spl<;>intro h<;>try simp (disch:=omega) only[go_sem, hl2, htk, List.length_map, hdl, h]))
        all_goals first | omega | skip
    | succ k=>
      unfold rcSt
      rw[hme]
      have hb:=before_run m hs hv (rowM m (k+1)) (rowM_len m _)
      rw[←rowM_succ, hme] at hb
      by_cases hlt:k+1<n
      · (repeat' first|simp (disch:=omega) only[go_sem, List.length_map]|refine pure_of _ (hb) ?_|(apply spl<;>intro h<;>try simp (disch:=omega) only[go_sem, List.length_map , h]))
        all_goals first | omega | skip
        refine ⟨k+2, ?_, by omega, by omega⟩
        first | rfl | (unfold rcSt; rw[hme]; rfl) | (rw[hme]; rfl)
      · have hn0:n=k+1:=by omega
        subst hn0
        (repeat' first|simp (disch:=omega) only[go_sem, List.length_map]|(apply spl<;>intro h<;>try simp (disch:=omega) only[go_sem, List.length_map, h]))
        all_goals first | omega | skip
end Ago
/- The reference's strings and Some. -/
set_option maxRecDepth 100000
set_option maxHeartbeats 8000000
namespace Ago
open Go (IntKind)
def blkS (m:List Sta) (n q b:Nat):List (List UInt8):=(allS m n (nxtM m q b)).map (UInt8.ofNat b :: ·)
def fullB (m:List Sta) (n q b:Nat):List (List UInt8):=(List.range b).flatMap (blkS m n q)
theorem fullB_succ (m:List Sta) (n q b:Nat):fullB m n q (b+1)=fullB m n q b++blkS m n q b:=by
  unfold fullB
  rw[List.range_succ, List.flatMap_append]
  simp
theorem fullB_all (m:List Sta) (n q:Nat):fullB m n q 256=allS m (n+1) q:=(rfl)
theorem take_more {α:Type} {A B:List α} {k:Nat} (h:A.length<k):(A++B).take k=A++B.take (k-A.length):=by
  rw[List.take_append, List.take_of_length_le (by omega)]
theorem take_enough {α:Type} {A B:List α} {k:Nat} (h:k≤A.length):(A++B).take k=A.take k:=by
  rw[List.take_append, show k-A.length=0 by omega]
  simp
theorem fullB_end {m:List Sta} {n q b k:Nat} (hb:b≤256) (h:k≤(fullB m n q b).length):(allS m (n+1) q).take k=(fullB m n q b).take k:=by
  rw[←fullB_all]
  have : ∀ c, fullB m n q (b+c)=fullB m n q b++(List.range c).flatMap fun i=>blkS m n q (b+i):=by
    intro c
    induction c with
    | zero=>simp
    | succ c ih=>
      rw[←Nat.add_assoc, fullB_succ, ih, List.range_succ, List.flatMap_append, List.append_assoc]
      simp
  obtain ⟨c, hc⟩ : ∃ c, 256=b+c:=⟨256-b, by omega⟩
  rw[hc, this c, take_enough h]
def strV (l:List (List UInt8)):List AV:=l.map .str
theorem strings_run (m:List Sta) (hs:SmallM m) (hv:validM m=true) : ∀ (n q:Nat) (k:Int), n<2^29→q<m.length→k<2^29→-(2^29)<k→PRun CB 353 [encMa m, .int .i64 q, .int .i64 n, .int .i64 k] (.tsl 1 (strV ((allS m n q).take k.toNat))):=by
  have hme:encMa m = .agg [.tsl 2 (m.map encSta)]:=rfl
  have hm:=hs.1
  intro n
  induction n with
  | zero=>
    intro q k hn hq hk1 hk2
    have hr:=reach_run m hs hv 0 (by decide)
    obtain ⟨x, hx⟩:=exAt hq
    have hg:((rowM m 0).map AV.bool)[q]?=some (.bool x.acc):=mget (rowM_at hx 0)
    have hrl:((rowM m 0).map AV.bool).length=m.length:=by rw[List.length_map, rowM_len]
    have ha:accM m q=x.acc:=by unfold accM; rw[hx]
    have e0:allS m 0 q=if accM m q=true then [[]] else []:=rfl
    rw[e0, ha]
    unfold strV
    refine prun_of ac353 rfl ?_
    rw[hme] at hr ⊢
    cases hxa:x.acc with
    | false=>
      rw[hxa] at hg
      (repeat' first|simp (disch:=omega) only[go_sem, ac353, enter, hg, hrl]|refine pure_of _ (hr) ?_|(apply spl<;>intro h<;>try simp (disch:=omega) only[go_sem, ac353, enter, hg, hrl , h]))
      all_goals first | omega | skip
    | true=>
      rw[hxa] at hg
      by_cases hk:k<1
      · rw[show k.toNat=0 by omega]
        (repeat' first|simp (disch:=omega) only[go_sem, ac353, enter, hg, hrl, List.take_zero, List.map_nil]|refine pure_of _ (hr) ?_|(apply spl<;>intro h<;>try simp (disch:=omega) only[go_sem, ac353, enter, hg, hrl, List.take_zero, List.map_nil , h]))
        all_goals first | omega | skip
      · rw[if_pos rfl, List.take_of_length_le (by simp; omega)]
        (repeat' first|simp (disch:=omega) only[go_sem, ac353, enter, hg, hrl]|refine pure_of _ (hr) ?_|(apply spl<;>intro h<;>try simp (disch:=omega) only[go_sem, ac353, enter, hg, hrl , h]))
        all_goals first | omega | skip
  | succ n ih=>
    intro q k hn hq hk1 hk2
    have hr:=reach_run m hs hv (n+1) (by omega)
    obtain ⟨x, hx⟩:=exAt hq
    obtain ⟨c, hc⟩:=exAt (l:=rowM m (n+1)) (k:=q) (by rw[rowM_len]; exact hq)
    have hg:((rowM m (n+1)).map AV.bool)[q]?=some (.bool c):=mget hc
    have hrl:((rowM m (n+1)).map AV.bool).length=m.length:=by rw[List.length_map, rowM_len]
    have hri:=row_iff hv (n+1) q hq
    have hgd:(rowM m (n+1)).getD q false=c:=by rw[List.getD_eq_getElem?_getD, hc]; rfl
    rw[hgd] at hri
    refine prun_of ac353 rfl ?_
    rw[hme] at hr ⊢
    cases c with
    | false=>
      have he:allS m (n+1) q=[]:=by
        cases hz:allS m (n+1) q with
        | nil=>rfl
        | cons y l=>exact (Bool.false_ne_true (hri.2 (by rw[hz]; simp))).elim
      rw[he]
      unfold strV
      (repeat' first|simp (disch:=omega) only[go_sem, ac353, enter, hg, hrl, List.take_nil, List.map_nil]|refine pure_of _ (hr) ?_|(apply spl<;>intro h<;>try simp (disch:=omega) only[go_sem, ac353, enter, hg, hrl, List.take_nil, List.map_nil , h]))
      all_goals first | omega | skip
    | true=>
      by_cases hk:k<1
      · rw[show k.toNat=0 by omega]
        unfold strV
        (repeat' first|simp (disch:=omega) only[go_sem, ac353, enter, hg, hrl, List.take_zero, List.map_nil]|refine pure_of _ (hr) ?_|(apply spl<;>intro h<;>try simp (disch:=omega) only[go_sem, ac353, enter, hg, hrl, List.take_zero, List.map_nil , h]))
        all_goals first | omega | skip
      · obtain ⟨kn, hkn⟩ : ∃ kn:Nat, k=kn:=⟨k.toNat, by omega⟩
        subst hkn
        rw[Int.toNat_natCast]
        (repeat' first|simp (disch:=omega) only[go_sem, ac353, enter, hg, hrl]|refine pure_of _ (hr) ?_|(apply spl<;>intro h<;>try simp (disch:=omega) only[go_sem, ac353, enter, hg, hrl , h]))
        all_goals first | omega | skip
        refine loop_of (α:=Nat) (fun b=>{ tmps:=slots 68 [(1, .int .i64 q), (2, .int .i64 ((n+1:Nat):Int)), (3, .int .i64 kn), (4, .ptr 1 0 0 0), (9, outSl 1 1 (strV ((fullB m n q b).take kn))), (10, .int .i64 b)], heap:=[.row 1 [encMa m] false true 0]++outHp 1 1 (strV ((fullB m n q b).take kn)), base:=0 }) (fun b=>b≤256) (fun b=>256-b) 0 (by rw[hme, show fullB m n q 0=[] from rfl, List.take_nil]; rfl) (Nat.zero_le _) ?_
        intro b hb
        obtain ⟨els, hels⟩ : ∃ els, strV ((fullB m n q b).take kn)=els:=⟨_, rfl⟩
        have hel:els.length=min kn (fullB m n q b).length:=by rw[←hels]; simp [strV]
        by_cases hlt:b<256∧els.length<kn
        · obtain ⟨hlt, hek⟩:=hlt
          have hfl:(fullB m n q b).length<kn:=by omega
          have hft:(fullB m n q b).take kn=fullB m n q b:=List.take_of_length_le (by omega)
          have hsuc:(fullB m n q (b+1)).take kn=fullB m n q b++(blkS m n q b).take (kn-(fullB m n q b).length):=by rw[fullB_succ, take_more hfl]
          have hnl:=nxt_lt hv hq hlt
          have hnx:=next_run m hs q x hx b
          have hnn:((nxtM m q b:Nat):Int)=nextGo b x.arcs:=by
            rw[nxt_at hx]
            have:=next_in x.arcs 0 (valid_arcs hv (List.mem_of_getElem? hx)) (b:=(b:Int)) (by omega) (by omega)
            omega
          rw[←hnn] at hnx
          have hr2:=ih (nxtM m q b) ((kn:Int)-els.length) (by omega) hnl (by omega) (by omega)
          rw[show ((kn:Int)-els.length).toNat=kn-(fullB m n q b).length by omega] at hr2
          obtain ⟨l, hl⟩ : ∃ l, (allS m n (nxtM m q b)).take (kn-(fullB m n q b).length)=l:=⟨_, rfl⟩
          rw[hl] at hr2
          have hbl:(blkS m n q b).take (kn-(fullB m n q b).length)=l.map (UInt8.ofNat b :: ·):=by
            rw[←hl]
            unfold blkS
            rw[List.map_take]
          rw[hbl] at hsuc
          have hll:l.length<2^30:=by
            have:=congrArg List.length hl
            rw[List.length_take] at this
            omega
          have hme2:=hme
          rw[hme] at hnx hr2
          rw[show (n:Int)=((n+1:Nat):Int)-1 by omega] at hr2
          have hb8:((b:Int) % 256)=b:=by omega
          have hbo:byteOf (.int .u8 (b:Int))=some (UInt8.ofNat b):=by
            simp [byteOf]
            try omega
          rw[hft] at hels
          rw[hme, hft, hels]
          cases els with
          | nil=>
            simp only[List.length_nil, cast0] at hek hr2
            (repeat' first|simp (disch:=omega) only[go_sem, List.length_map, outSl, outHp, List.length_nil]|refine pure_of _ (hnx) ?_|refine pure_of _ (hr2) ?_|(apply spl<;>intro h<;>try simp (disch:=omega) only[go_sem, List.length_map, outSl, outHp, List.length_nil , h]))
            all_goals first | omega | skip
            refine loop_of (α:=Nat) (fun i=>{ tmps:=slots 68 [(1, .int .i64 q), (2, .int .i64 ((n+1:Nat):Int)), (3, .int .i64 kn), (4, .ptr 1 0 0 0), (9, outSl 1 1 (strV (fullB m n q b++(l.take i).map (UInt8.ofNat b :: ·)))), (10, .int .i64 b), (11, .tsl 1 (strV l)), (12, .int .i64 i)], heap:=[.row 1 [encMa m] false true 0]++outHp 1 1 (strV (fullB m n q b++(l.take i).map (UInt8.ofNat b :: ·))), base:=0 }) (fun i=>i≤l.length) (fun i=>l.length-i) 0 (by rw[hme, List.take_zero, List.map_nil, List.append_nil, hels]; rfl) (Nat.zero_le _) ?_
            intro i hi
            rw[hme]
            have hsl:(strV l).length=l.length:=by simp [strV]
            obtain ⟨es, hes⟩ : ∃ es, strV (fullB m n q b++(l.take i).map (UInt8.ofNat b :: ·))=es:=⟨_, rfl⟩
            have hesl:es.length=(fullB m n q b).length+i:=by rw[←hes]; simp [strV]; omega
            rw[hes]
            by_cases hil:i<l.length
            · obtain ⟨y, hy⟩:=exAt hil
              have hl2:(strV l)[i]?=some (.str y):=mget hy
              have hyl:1+y.length≤2147483648:=by
                have h1:y∈allS m n (nxtM m q b):=List.mem_of_mem_take (hl.symm▸List.mem_of_getElem? hy)
                have h2:=((mem_allS m n _ y).1 h1).1
                omega
              have hnew:strV (fullB m n q b++(l.take (i+1)).map (UInt8.ofNat b :: ·))=es++[.str (UInt8.ofNat b::y)]:=by
                rw[←hes, List.take_add_one, hy]
                simp [strV]
              cases es with
              | nil=>
                simp only[List.length_nil] at hesl
                (repeat' first|simp (disch:=omega) only[go_sem, keep_mk, hl2, hsl, List.length_map, outSl, outHp, hb8, hbo, hyl, if_true]|(apply spl<;>intro h<;>try simp (disch:=omega) only[go_sem, keep_mk, hl2, hsl, List.length_map, outSl, outHp, hb8, hbo, hyl, if_true, h]))
                all_goals first | omega | skip
                refine ⟨i+1, ?_, hil, by omega⟩
                simp only[hnew, List.cons_append, List.nil_append, outSl, outHp, List.length_append, List.length_cons, List.length_nil]
                rfl
              | cons w ws=>
                simp only[List.length_cons] at hesl
                (repeat' first|simp (disch:=omega) only[go_sem, keep_mk, hl2, hsl, List.length_map, outSl, outHp, hb8, hbo, hyl, if_true]|(apply spl<;>intro h<;>try simp (disch:=omega) only[go_sem, keep_mk, hl2, hsl, List.length_map, outSl, outHp, hb8, hbo, hyl, if_true, h]))
                all_goals first | omega | skip
                refine ⟨i+1, ?_, hil, by omega⟩
                simp only[hnew, List.cons_append, List.nil_append, outSl, outHp, List.length_append, List.length_cons, List.length_nil]
                rfl
            · have hil2:i=l.length:=by omega
              rw[hil2, List.take_length, ← hsuc] at hes
              cases es with
              | nil=>
                (repeat' first|simp (disch:=omega) only[go_sem, hsl, List.length_map, outSl, outHp]|(apply spl<;>intro h<;>try simp (disch:=omega) only[go_sem, hsl, List.length_map, outSl, outHp, h]))
                all_goals first | omega | skip
                refine ⟨b+1, ?_, hlt, by omega⟩
                rw[hes]
                rfl
              | cons w ws=>
                (repeat' first|simp (disch:=omega) only[go_sem, hsl, List.length_map, outSl, outHp]|(apply spl<;>intro h<;>try simp (disch:=omega) only[go_sem, hsl, List.length_map, outSl, outHp, h]))
                all_goals first | omega | skip
                refine ⟨b+1, ?_, hlt, by omega⟩
                rw[hes]
                rfl
          | cons z zs=>
            simp only[List.length_cons] at hek hr2
            (repeat' first|simp (disch:=omega) only[go_sem, List.length_map, outSl, outHp, List.length_cons]|refine pure_of _ (hnx) ?_|refine pure_of _ (hr2) ?_|(apply spl<;>intro h<;>try simp (disch:=omega) only[go_sem, List.length_map, outSl, outHp, List.length_cons , h]))
            all_goals first | omega | skip
            refine loop_of (α:=Nat) (fun i=>{ tmps:=slots 68 [(1, .int .i64 q), (2, .int .i64 ((n+1:Nat):Int)), (3, .int .i64 kn), (4, .ptr 1 0 0 0), (9, outSl 1 1 (strV (fullB m n q b++(l.take i).map (UInt8.ofNat b :: ·)))), (10, .int .i64 b), (11, .tsl 1 (strV l)), (12, .int .i64 i)], heap:=[.row 1 [encMa m] false true 0]++outHp 1 1 (strV (fullB m n q b++(l.take i).map (UInt8.ofNat b :: ·))), base:=0 }) (fun i=>i≤l.length) (fun i=>l.length-i) 0 (by rw[hme, List.take_zero, List.map_nil, List.append_nil, hels]; rfl) (Nat.zero_le _) ?_
            intro i hi
            rw[hme]
            have hsl:(strV l).length=l.length:=by simp [strV]
            obtain ⟨es, hes⟩ : ∃ es, strV (fullB m n q b++(l.take i).map (UInt8.ofNat b :: ·))=es:=⟨_, rfl⟩
            have hesl:es.length=(fullB m n q b).length+i:=by rw[←hes]; simp [strV]; omega
            rw[hes]
            by_cases hil:i<l.length
            · obtain ⟨y, hy⟩:=exAt hil
              have hl2:(strV l)[i]?=some (.str y):=mget hy
              have hyl:1+y.length≤2147483648:=by
                have h1:y∈allS m n (nxtM m q b):=List.mem_of_mem_take (hl.symm▸List.mem_of_getElem? hy)
                have h2:=((mem_allS m n _ y).1 h1).1
                omega
              have hnew:strV (fullB m n q b++(l.take (i+1)).map (UInt8.ofNat b :: ·))=es++[.str (UInt8.ofNat b::y)]:=by
                rw[←hes, List.take_add_one, hy]
                simp [strV]
              cases es with
              | nil=>
                simp only[List.length_nil] at hesl
                (repeat' first|simp (disch:=omega) only[go_sem, keep_mk, hl2, hsl, List.length_map, outSl, outHp, hb8, hbo, hyl, if_true]|(apply spl<;>intro h<;>try simp (disch:=omega) only[go_sem, keep_mk, hl2, hsl, List.length_map, outSl, outHp, hb8, hbo, hyl, if_true, h]))
                all_goals first | omega | skip
                refine ⟨i+1, ?_, hil, by omega⟩
                simp only[hnew, List.cons_append, List.nil_append, outSl, outHp, List.length_append, List.length_cons, List.length_nil]
                rfl
              | cons w ws=>
                simp only[List.length_cons] at hesl
                (repeat' first|simp (disch:=omega) only[go_sem, keep_mk, hl2, hsl, List.length_map, outSl, outHp, hb8, hbo, hyl, if_true]|(apply spl<;>intro h<;>try simp (disch:=omega) only[go_sem, keep_mk, hl2, hsl, List.length_map, outSl, outHp, hb8, hbo, hyl, if_true, h]))
                all_goals first | omega | skip
                refine ⟨i+1, ?_, hil, by omega⟩
                simp only[hnew, List.cons_append, List.nil_append, outSl, outHp, List.length_append, List.length_cons, List.length_nil]
                rfl
            · have hil2:i=l.length:=by omega
              rw[hil2, List.take_length, ← hsuc] at hes
              cases es with
              | nil=>
                (repeat' first|simp (disch:=omega) only[go_sem, hsl, List.length_map, outSl, outHp]|(apply spl<;>intro h<;>try simp (disch:=omega) only[go_sem, hsl, List.length_map, outSl, outHp, h]))
                all_goals first | omega | skip
                refine ⟨b+1, ?_, hlt, by omega⟩
                rw[hes]
                rfl
              | cons w ws=>
                (repeat' first|simp (disch:=omega) only[go_sem, hsl, List.length_map, outSl, outHp]|(apply spl<;>intro h<;>try simp (disch:=omega) only[go_sem, hsl, List.length_map, outSl, outHp, h]))
                all_goals first | omega | skip
                refine ⟨b+1, ?_, hlt, by omega⟩
                rw[hes]
                rfl
        · have hfin:strV ((allS m (n+1) q).take kn)=els:=by
            rw[←hels]
            by_cases hlt2:b<256
            · rw[fullB_end hb (by omega)]
            · have hb2:b=256:=by omega
              rw[hb2, fullB_all]
          rw[hfin, hels]
          cases els with
          | nil=>
            simp only[List.length_nil] at hlt
            (repeat' first|simp (disch:=omega) only[go_sem, List.length_map, outSl, outHp]|(apply spl<;>intro h<;>try simp (disch:=omega) only[go_sem, List.length_map, outSl, outHp, h]))
            all_goals first | omega | skip
          | cons z zs=>
            simp only[List.length_cons] at hlt
            (repeat' first|simp (disch:=omega) only[go_sem, List.length_map, outSl, outHp, List.take_length]|(apply spl<;>intro h<;>try simp (disch:=omega) only[go_sem, List.length_map, outSl, outHp, List.take_length, h]))
            all_goals first | omega | skip
end Ago
