/- Least automata: Equal on both sides; the law AutomatonEquals. -/
import Derived.Test.YtndeonfobpmddaaGreatDoorRunK
set_option linter.unusedSimpArgs false
set_option linter.unusedVariables false
set_option maxRecDepth 100000
set_option maxHeartbeats 16000000
namespace Ago
open Go (IntKind)
theorem slEq_run (l r:List Arc) (hl:l.length<2^30) (hr:r.length<2^30):PRun CB 365 [.tsl 3 (l.map encArc), .tsl 3 (r.map encArc)] (.bool (sameArcs l r)):=by
  refine prun_of ac365 rfl ?_
  by_cases hne : ¬ l.length=r.length
  · rw[sameArcs_len l r hne]
    (repeat' first|simp (disch:=omega) only[go_sem, ac365, enter, List.length_map]|(apply spl<;>intro h<;>try simp (disch:=omega) only[go_sem, ac365, enter, List.length_map, h]))
    all_goals omega
  have hlr:l.length=r.length:=Decidable.of_not_not hne
  (repeat' first|simp (disch:=omega) only[go_sem, ac365, enter, List.length_map]|(apply spl<;>intro h<;>try simp (disch:=omega) only[go_sem, ac365, enter, List.length_map, h]))
  all_goals try omega
  refine loop_of (α:=Nat) (fun k=>{ tmps:=slots 26 [(0, .tsl 3 (l.map encArc)), (1, .tsl 3 (r.map encArc)), (12, .int .i64 l.length), (13, .int .i64 k)], heap:=[], base:=0 }) (fun k=>k≤l.length∧sameArcs (l.drop k) (r.drop k)=sameArcs l r) (fun k=>l.length-k) 0 rfl ⟨Nat.zero_le _, rfl⟩ ?_
  rintro j ⟨hj, h5⟩
  by_cases hjt:j<l.length
  · obtain ⟨p, hp⟩:=exAt hjt
    obtain ⟨q, hq⟩:=exAt (l:=r) (k:=j) (by omega)
    have hp2:(l.map encArc)[j]?=some (.agg [.int .i64 p.lo, .int .i64 p.hi, .int .i64 p.next]):=mget hp
    have hq2:(r.map encArc)[j]?=some (.agg [.int .i64 q.lo, .int .i64 q.hi, .int .i64 q.next]):=mget hq
    rw[dropC hp, dropC hq, sameArcs] at h5
    by_cases e1:p.lo=q.lo∧p.hi=q.hi∧p.next=q.next
    · obtain ⟨d1, d2, d3⟩:=e1
      have h6:sameArcs (l.drop (j+1)) (r.drop (j+1))=sameArcs l r:=by
        rw[←h5, sameArc, d1, d2, d3]
        simp
      (repeat' first|simp (disch:=omega) only[go_sem, hp2, hq2, d1, d2, d3, List.length_map]|(apply spl<;>intro h<;>try simp (disch:=omega) only[go_sem, hp2, hq2, d1, d2, d3, List.length_map, h]))
      all_goals try omega
      exact ⟨j+1, rfl, ⟨hjt, h6⟩, by omega⟩
    · have h6:sameArcs l r=false:=by
        rw[←h5]
        have:sameArc p q=false:=by
          unfold sameArc
          by_cases e2:p.lo=q.lo<;>by_cases e3:p.hi=q.hi<;>by_cases e4:p.next=q.next<;>simp [e2, e3, e4]
          exact (e1 ⟨e2, e3, e4⟩).elim
        rw[this]
        simp
      rw[h6]
      (repeat' first|simp (disch:=omega) only[go_sem, hp2, hq2, List.length_map]|(apply spl<;>intro h<;>try simp (disch:=omega) only[go_sem, hp2, hq2, List.length_map, h]))
      all_goals first | omega | exact (e1 (by simpa using h)).elim
  · have hj2:j=l.length:=by omega
    have h6:sameArcs l r=true:=by
      rw[←h5, hj2, List.drop_length, hlr, List.drop_length]
      rfl
    rw[h6]
    (repeat' first|simp (disch:=omega) only[go_sem, List.length_map]|(apply spl<;>intro h<;>try simp (disch:=omega) only[go_sem, List.length_map, h]))
    all_goals omega
theorem post_bool {m:Nat} {res:List ResV} {H E:Heap} {tm:List AV} {b rb:Nat} {e:Ex} {w:Bool} (he:e = .normal∨e = .ret) (hres:results res ⟨tm, H++E, b, rb⟩=some (.bool w)) (hm:m=H.length) (hC:Cl H) (hE : ∀ b, b∈E→b.roB=false):PostC m res (.bool w) H e ⟨tm, H++E, b, rb⟩:=by
  have:=postC_of (ks:=[]) (K:=[]) (v:=.bool w) (u:=.bool w) (tm:=tm) (b:=b) (rb:=rb) (res:=res) he hres hm hC hE rfl (by simp) rfl rfl
  rw[List.append_nil] at this
  exact this
theorem clos_run {H:Heap} (hC:Cl H) (x y:Sta) (hx:x.arcs.length<2^30) (hy:y.arcs.length<2^30):RunOf CB 364 [encSta x, encSta y] H (.bool (sameSta x y)) H:=by
  have h1:=slEq_run x.arcs y.arcs hx hy
  rw[show encSta x = .agg [.bool x.acc, .tsl 3 (x.arcs.map encArc)] from rfl, show encSta y = .agg [.bool y.acc, .tsl 3 (y.arcs.map encArc)] from rfl]
  unfold sameSta
  obtain ⟨w, hw⟩ : ∃ w, sameArcs x.arcs y.arcs=w:=⟨_, rfl⟩
  rw[hw] at h1 ⊢
  obtain ⟨p, hp⟩ : ∃ p, x.acc=p:=⟨_, rfl⟩
  obtain ⟨q, hq⟩ : ∃ q, y.acc=q:=⟨_, rfl⟩
  rw[hp, hq]
  cases p<;>cases q
  · show RunOf CB 364 _ H (.bool w) H
    refine runC_of ac364 rfl ?_
    (repeat' first|simp (disch:=omega) only[go_sem, ac364, enter, gP0, gR, gL, List.length_append, List.append_assoc, List.length_cons, List.length_nil, List.cons_append, List.nil_append]|refine pure_of _ (h1) ?_|(apply spl<;>intro h<;>try simp (disch:=omega) only[go_sem, ac364, enter, gP0, gR, gL, List.length_append, List.append_assoc, List.length_cons, List.length_nil, List.cons_append, List.nil_append , h]))
    all_goals first | omega | skip
    exact post_bool (E:=[.row 2 [.agg [.bool false, .tsl 3 (x.arcs.map encArc)]] false true H.length, .row 2 [.agg [.bool false, .tsl 3 (y.arcs.map encArc)]] false true (H.length+1)]) (.inr rfl) rfl rfl hC (ro_two rfl rfl)
  · show RunOf CB 364 _ H (.bool false) H
    refine runC_of ac364 rfl ?_
    (repeat' first|simp (disch:=omega) only[go_sem, ac364, enter, gP0, gR, gL, List.length_append, List.append_assoc, List.length_cons, List.length_nil, List.cons_append, List.nil_append]|refine pure_of _ (h1) ?_|(apply spl<;>intro h<;>try simp (disch:=omega) only[go_sem, ac364, enter, gP0, gR, gL, List.length_append, List.append_assoc, List.length_cons, List.length_nil, List.cons_append, List.nil_append , h]))
    all_goals first | omega | skip
    exact post_bool (E:=[.row 2 [.agg [.bool false, .tsl 3 (x.arcs.map encArc)]] false true H.length, .row 2 [.agg [.bool true, .tsl 3 (y.arcs.map encArc)]] false true (H.length+1)]) (.inr rfl) rfl rfl hC (ro_two rfl rfl)
  · show RunOf CB 364 _ H (.bool false) H
    refine runC_of ac364 rfl ?_
    (repeat' first|simp (disch:=omega) only[go_sem, ac364, enter, gP0, gR, gL, List.length_append, List.append_assoc, List.length_cons, List.length_nil, List.cons_append, List.nil_append]|refine pure_of _ (h1) ?_|(apply spl<;>intro h<;>try simp (disch:=omega) only[go_sem, ac364, enter, gP0, gR, gL, List.length_append, List.append_assoc, List.length_cons, List.length_nil, List.cons_append, List.nil_append , h]))
    all_goals first | omega | skip
    exact post_bool (E:=[.row 2 [.agg [.bool true, .tsl 3 (x.arcs.map encArc)]] false true H.length, .row 2 [.agg [.bool false, .tsl 3 (y.arcs.map encArc)]] false true (H.length+1)]) (.inr rfl) rfl rfl hC (ro_two rfl rfl)
  · show RunOf CB 364 _ H (.bool w) H
    refine runC_of ac364 rfl ?_
    (repeat' first|simp (disch:=omega) only[go_sem, ac364, enter, gP0, gR, gL, List.length_append, List.append_assoc, List.length_cons, List.length_nil, List.cons_append, List.nil_append]|refine pure_of _ (h1) ?_|(apply spl<;>intro h<;>try simp (disch:=omega) only[go_sem, ac364, enter, gP0, gR, gL, List.length_append, List.append_assoc, List.length_cons, List.length_nil, List.cons_append, List.nil_append , h]))
    all_goals first | omega | skip
    exact post_bool (E:=[.row 2 [.agg [.bool true, .tsl 3 (x.arcs.map encArc)]] false true H.length, .row 2 [.agg [.bool true, .tsl 3 (y.arcs.map encArc)]] false true (H.length+1)]) (.inr rfl) rfl rfl hC (ro_two rfl rfl)
theorem eqf_run (a b:List Sta) (ha:SmallM a) (hb:SmallM b):PRun CB 363 [.tsl 2 (a.map encSta), .tsl 2 (b.map encSta), .fn 364 []] (.bool (sameM a b)):=by
  obtain ⟨hm, hA⟩:=ha
  obtain ⟨hn, hB⟩:=hb
  refine prun_of ac363 rfl ?_
  by_cases hne : ¬ a.length=b.length
  · rw[sameM_len a b hne]
    (repeat' first|simp (disch:=omega) only[go_sem, ac363, enter, List.length_map]|(apply spl<;>intro h<;>try simp (disch:=omega) only[go_sem, ac363, enter, List.length_map, h]))
    all_goals omega
  have hab:a.length=b.length:=Decidable.of_not_not hne
  (repeat' first|simp (disch:=omega) only[go_sem, ac363, enter, List.length_map]|(apply spl<;>intro h<;>try simp (disch:=omega) only[go_sem, ac363, enter, List.length_map, h]))
  all_goals try omega
  refine loop_of (α:=Nat) (fun k=>{ tmps:=slots 32 [(1, .tsl 2 (b.map encSta)), (2, .fn 364 []), (15, .tsl 2 (a.map encSta)), (16, .int .i64 a.length), (17, .int .i64 k)], heap:=[], base:=0 }) (fun k=>k≤a.length∧sameM (a.drop k) (b.drop k)=sameM a b) (fun k=>a.length-k) 0 rfl ⟨Nat.zero_le _, rfl⟩ ?_
  rintro k ⟨hk, h3⟩
  by_cases hlt:k<a.length
  · obtain ⟨x, hx⟩:=exAt hlt
    obtain ⟨y, hy⟩:=exAt (l:=b) (k:=k) (by omega)
    have hxa:=hA x (List.mem_of_getElem? hx)
    have hyb:=hB y (List.mem_of_getElem? hy)
    have hx2:(a.map encSta)[k]?=some (.agg [.bool x.acc, .tsl 3 (x.arcs.map encArc)]):=mget hx
    have hy2:(b.map encSta)[k]?=some (.agg [.bool y.acc, .tsl 3 (y.arcs.map encArc)]):=mget hy
    rw[dropC hx, dropC hy, sameM] at h3
    (repeat' first|simp (disch:=omega) only[go_sem, hx2, hy2, List.length_map]|(apply spl<;>intro h<;>try simp (disch:=omega) only[go_sem, hx2, hy2, List.length_map, h]))
    all_goals try omega
    refine call_of _ _ (clos_run (cl_of (n:=2) rfl (all_cons (clb_flat (by decide)) (all_cons (clb_flat (by decide)) all_nil))) x y hxa hyb) ?_
    cases hs:sameSta x y with
    | true=>
      rw[hs, Bool.true_and] at h3
      (repeat' first|simp (disch:=omega) only[go_sem, List.length_map]|(apply spl<;>intro h<;>try simp (disch:=omega) only[go_sem, List.length_map, h]))
      all_goals try omega
      exact ⟨k+1, rfl, ⟨hlt, h3⟩, by omega⟩
    | false=>
      rw[hs, Bool.false_and] at h3
      rw[←h3]
      (repeat' first|simp (disch:=omega) only[go_sem, List.length_map]|(apply spl<;>intro h<;>try simp (disch:=omega) only[go_sem, List.length_map, h]))
      all_goals omega
  · have hk2:k=a.length:=by omega
    have h6:sameM a b=true:=by
      rw[←h3, hk2, List.drop_length, hab, List.drop_length]
      rfl
    rw[h6]
    (repeat' first|simp (disch:=omega) only[go_sem, List.length_map]|(apply spl<;>intro h<;>try simp (disch:=omega) only[go_sem, List.length_map, h]))
    all_goals omega
def EqM (a b:List Sta):Bool:=validM a && validM b && sameM (leastM a) (leastM b)
theorem small_leastM {m:List Sta} (hv:validM m=true) (hm:m.length≤80):SmallM (leastM m):=by
  have:=small_least m hm
  unfold LeastM at this
  rw[if_pos hv] at this
  exact this
theorem Equal_run (a b:List Sta) (ha:SmallM a) (hb:SmallM b) (hal:a.length≤80) (hbl:b.length≤80):PRun CB 342 [encMa a, encMa b] (.bool (EqM a b)):=by
  have h1:=valid_run a ha
  have h2:=valid_run b hb
  refine prun_of ac342 rfl ?_
  unfold EqM
  cases hva:validM a with
  | false=>
    rw[hva] at h1
    unfold encMa at *
    (repeat' first|simp (disch:=omega) only[go_sem, ac342, enter]|refine pure_of _ (h1) ?_|(apply spl<;>intro h<;>try simp (disch:=omega) only[go_sem, ac342, enter , h]))
    all_goals first | omega | rfl | skip
  | true=>
    cases hvb:validM b with
    | false=>
      rw[hva] at h1
      rw[hvb] at h2
      unfold encMa at *
      (repeat' first|simp (disch:=omega) only[go_sem, ac342, enter]|refine pure_of _ (h1) ?_|refine pure_of _ (h2) ?_|(apply spl<;>intro h<;>try simp (disch:=omega) only[go_sem, ac342, enter , h]))
      all_goals first | omega | rfl | skip
    | true=>
      have h3:=least_run a ha hva hal
      have h4:=least_run b hb hvb hbl
      have h5:=eqf_run _ _ (small_leastM hva hal) (small_leastM hvb hbl)
      rw[hva] at h1
      rw[hvb] at h2
      obtain ⟨A, hA⟩ : ∃ A, leastM a=A:=⟨_, rfl⟩
      obtain ⟨B, hB⟩ : ∃ B, leastM b=B:=⟨_, rfl⟩
      rw[hA, hB] at h5 ⊢
      rw[hA] at h3
      rw[hB] at h4
      rw[Bool.true_and, Bool.true_and]
      unfold encMa at *
      (repeat' first|simp (disch:=omega) only[go_sem, ac342, enter, keep_mk]|refine pure_of _ (h1) ?_|refine pure_of _ (h2) ?_|refine pure_of _ (h3) ?_|refine pure_of _ (h4) ?_|refine pure_of _ (h5) ?_|(apply spl<;>intro h<;>try simp (disch:=omega) only[go_sem, ac342, enter, keep_mk , h]))
      all_goals first | omega | rfl | skip
theorem refEqual_run (a b:List Sta) (ha:SmallM a) (hb:SmallM b) (hal:a.length≤80) (hbl:b.length≤80):PRun CB 343 [encMa a, encMa b] (.bool (EqM a b)):=by
  have h1:=refValid_run a ha
  have h2:=refValid_run b hb
  refine prun_of ac343 rfl ?_
  unfold EqM
  cases hva:validM a with
  | false=>
    rw[hva] at h1
    unfold encMa at *
    (repeat' first|simp (disch:=omega) only[go_sem, ac343, enter]|refine pure_of _ (h1) ?_|(apply spl<;>intro h<;>try simp (disch:=omega) only[go_sem, ac343, enter , h]))
    all_goals first | omega | rfl | skip
  | true=>
    cases hvb:validM b with
    | false=>
      rw[hva] at h1
      rw[hvb] at h2
      unfold encMa at *
      (repeat' first|simp (disch:=omega) only[go_sem, ac343, enter]|refine pure_of _ (h1) ?_|refine pure_of _ (h2) ?_|(apply spl<;>intro h<;>try simp (disch:=omega) only[go_sem, ac343, enter , h]))
      all_goals first | omega | rfl | skip
    | true=>
      have h3:=refLeast_run a ha hva hal (los_ok hva)
      have h4:=refLeast_run b hb hvb hbl (los_ok hvb)
      have h5:=same_run _ _ (small_leastM hva hal) (small_leastM hvb hbl)
      rw[hva] at h1
      rw[hvb] at h2
      obtain ⟨A, hA⟩ : ∃ A, leastM a=A:=⟨_, rfl⟩
      obtain ⟨B, hB⟩ : ∃ B, leastM b=B:=⟨_, rfl⟩
      rw[hA, hB] at h5 ⊢
      rw[hA] at h3
      rw[hB] at h4
      rw[Bool.true_and, Bool.true_and]
      unfold encMa at *
      (repeat' first|simp (disch:=omega) only[go_sem, ac343, enter, keep_mk]|refine pure_of _ (h1) ?_|refine pure_of _ (h2) ?_|refine pure_of _ (h3) ?_|refine pure_of _ (h4) ?_|refine pure_of _ (h5) ?_|(apply spl<;>intro h<;>try simp (disch:=omega) only[go_sem, ac343, enter, keep_mk , h]))
      all_goals first | omega | rfl | skip
/-- The law AutomatonEquals. -/
theorem equals_run (hw:PRun CB 318 [] (.bool true)) (a b:List Sta) (ha:SmallM a) (hb:SmallM b):PRun CB 316 [encMa a, encMa b] (.bool true):=by
  obtain ⟨w1, hf1, hb1⟩:=few_run a 40 ha.1
  obtain ⟨w2, hf2, hb2⟩:=few_run b 40 hb.1
  refine prun_of ac316 rfl ?_
  cases w1 with
  | false=>
    unfold encMa at hf1 ⊢
    (repeat' first|simp (disch:=omega) only[go_sem, ac316, enter, List.length_map]|refine pure_of _ (hf1) ?_|refine pure_of _ (hw) ?_|(apply spl<;>intro h<;>try simp (disch:=omega) only[go_sem, ac316, enter, List.length_map , h]))
    all_goals first | omega | skip
  | true=>
    cases w2 with
    | false=>
      unfold encMa at hf1 hf2 ⊢
      (repeat' first|simp (disch:=omega) only[go_sem, ac316, enter, List.length_map]|refine pure_of _ (hf1) ?_|refine pure_of _ (hf2) ?_|refine pure_of _ (hw) ?_|(apply spl<;>intro h<;>try simp (disch:=omega) only[go_sem, ac316, enter, List.length_map , h]))
      all_goals first | omega | skip
    | true=>
      obtain ⟨h40, _⟩:=hb1 rfl
      obtain ⟨h41, _⟩:=hb2 rfl
      have e1:=Equal_run a b ha hb (by omega) (by omega)
      have e2:=refEqual_run a b ha hb (by omega) (by omega)
      have e3:=Equal_run a a ha ha (by omega) (by omega)
      have v1:=valid_run a ha
      have v2:=valid_run b hb
      have l1:=Least_run a ha (by omega)
      have l2:=Least_run b hb (by omega)
      have sm:=same_run (LeastM a) (LeastM b) (small_least a (by omega)) (small_least b (by omega))
      have hself:EqM a a=validM a:=by
        unfold EqM
        rw[sameM_self]
        cases validM a<;>rfl
      rw[hself] at e3
      have hE:validM a=true→validM b=true→EqM a b=sameM (LeastM a) (LeastM b):=fun x y=>by
        unfold EqM LeastM
        rw[if_pos x, if_pos y, x, y]
        rfl
      obtain ⟨A, hA⟩ : ∃ A, LeastM a=A:=⟨_, rfl⟩
      obtain ⟨B, hB⟩ : ∃ B, LeastM b=B:=⟨_, rfl⟩
      rw[hA, hB] at sm hE
      rw[hA] at l1
      rw[hB] at l2
      obtain ⟨w, hw1⟩ : ∃ w, EqM a b=w:=⟨_, rfl⟩
      rw[hw1] at e1 e2 hE
      cases hva:validM a with
      | false=>
        rw[hva] at v1 e3
        cases w <;>
        · unfold encMa at *
          (repeat' first|simp (disch:=omega) only[go_sem, ac316, enter, List.length_map]|refine pure_of _ (hf1) ?_|refine pure_of _ (hf2) ?_|refine pure_of _ (hw) ?_|refine pure_of _ (e1) ?_|refine pure_of _ (e2) ?_|refine pure_of _ (e3) ?_|refine pure_of _ (v1) ?_|refine pure_of _ (v2) ?_|(apply spl<;>intro h<;>try simp (disch:=omega) only[go_sem, ac316, enter, List.length_map , h]))
          all_goals first | omega | skip
      | true=>
        cases hvb:validM b with
        | false=>
          rw[hva] at v1 e3
          rw[hvb] at v2
          cases w <;>
          · unfold encMa at *
            (repeat' first|simp (disch:=omega) only[go_sem, ac316, enter, List.length_map]|refine pure_of _ (hf1) ?_|refine pure_of _ (hf2) ?_|refine pure_of _ (hw) ?_|refine pure_of _ (e1) ?_|refine pure_of _ (e2) ?_|refine pure_of _ (e3) ?_|refine pure_of _ (v1) ?_|refine pure_of _ (v2) ?_|(apply spl<;>intro h<;>try simp (disch:=omega) only[go_sem, ac316, enter, List.length_map , h]))
            all_goals first | omega | skip
        | true=>
          rw[←hE hva hvb] at sm
          rw[hva] at v1 e3
          rw[hvb] at v2
          cases w <;>
          · unfold encMa at *
            (repeat' first|simp (disch:=omega) only[go_sem, ac316, enter, List.length_map]|refine pure_of _ (hf1) ?_|refine pure_of _ (hf2) ?_|refine pure_of _ (hw) ?_|refine pure_of _ (e1) ?_|refine pure_of _ (e2) ?_|refine pure_of _ (e3) ?_|refine pure_of _ (v1) ?_|refine pure_of _ (v2) ?_|refine pure_of _ (l1) ?_|refine pure_of _ (l2) ?_|refine pure_of _ (sm) ?_|(apply spl<;>intro h<;>try simp (disch:=omega) only[go_sem, ac316, enter, List.length_map , h]))
            all_goals first | omega | skip
end Ago
