/- Automata: what is given, few, the reference's state, Next. -/
import Derived.Test.YtgfkbpjgfdgfbaaGreatDoorCodeB
import Derived.Test.YtgfkbpjgfdgfbaaGreatDoorMachE
import Derived.Test.YtgfkbpjgfdgfbaaGreatDoorMachD
set_option linter.unusedSimpArgs false
set_option linter.unusedVariables false
set_option maxRecDepth 100000
set_option maxHeartbeats 4000000
namespace Ago
open Go (IntKind)
/-- What a machine does, one that has more code does too. -/
theorem bs_more {C C':Ctx} (h1 : ∀ f fn, C.code f=some fn→C'.code f=some fn) (h2 : ∀ f a H v H', C.prim f a H v H'→C'.prim f a H v H') (h3 : ∀ f t v, C.pprim f t v→C'.pprim f t v) {j:J} (h:BS C j):BS C' j:=by
  induction h with
  | prim h=>exact .prim (h2 _ _ _ _ _ h)
  | pprim h=>exact .pprim (h3 _ _ _ h)
  | nil s=>exact .nil s
  | pass hw _ ih=>exact .pass hw ih
  | pure hw ho hv _ ih=>exact .pure hw ho hv ih
  | read hw ho hv _ ih=>exact .read hw ho hv ih
  | new hw ho hv _ ih=>exact .new hw ho hv ih
  | newAt hw ho hv hf _ ih=>exact .newAt hw ho hv hf ih
  | eff hw ho hv _ ih=>exact .eff hw ho hv ih
  | call hw ho _ _ ihv ih=>exact .call hw ho ihv ih
  | pcall hw ho ha _ _ ihr ih=>exact .pcall hw ho ha ihr ih
  | callv hw ho ha _ _ ihv ih=>exact .callv hw ho ha ihv ih
  | skip s=>exact .skip s
  | ops _ ih=>exact .ops ih
  | draw hne _ ih=>exact .draw hne ih
  | seq _ _ ih1 ih2=>exact .seq ih1 ih2
  | seqE _ he ih=>exact .seqE ih he
  | condT hx _ ih=>exact .condT hx ih
  | condF hx _ ih=>exact .condF hx ih
  | block _ ih=>exact .block ih
  | scope _ ih=>exact .scope ih
  | loop _ _ ih1 ih2=>exact .loop ih1 ih2
  | loopE _ he ih=>exact .loopE ih he
  | exit id s=>exact .exit id s
  | ret s=>exact .ret s
  | run hf _ he hr ih=>exact .run (by rw[h1]; exact hf) ih he hr
  | prun hf _ he hr hv ih=>exact .prun (by rw[h1]; exact hf) ih he hr hv
theorem upB {f:Nat} {ts:List AV} {v:AV} (h:PRun CA f ts v):PRun CB f ts v:=
  bs_more (C:=CA) (C':=CB) (fun f fn h=>by
    have h:codeA f=some fn:=h
    show codeB f=some fn
    unfold codeB
    rw[h]) (fun _ _ _ _ _ h=>by
      obtain ⟨p, x, h, _⟩:=h
      cases h) (fun _ _ _ h=>h) h
structure Arc where
  lo:Int
  hi:Int
  next:Int
structure Sta where
  acc:Bool
  arcs:List Arc
def encArc (a:Arc):AV:=.agg [.int .i64 a.lo, .int .i64 a.hi, .int .i64 a.next]
def encSta (s:Sta):AV:=.agg [.bool s.acc, .tsl 3 (s.arcs.map encArc)]
def encMa (m:List Sta):AV:=.agg [.tsl 2 (m.map encSta)]
theorem mget {α:Type} {g:α→AV} {l:List α} {k:Nat} {x:α} (hx:l[k]?=some x):(l.map g)[k]?=some (g x):=by rw[List.getElem?_map, hx]; rfl
theorem dropC {α:Type} {l:List α} {k:Nat} {x:α} (hx:l[k]?=some x):l.drop k=x::l.drop (k+1):=by
  obtain ⟨h3, h4⟩:=List.getElem?_eq_some_iff.1 hx
  rw[List.drop_eq_getElem_cons h3, h4]
theorem exAt {α:Type} {l:List α} {k:Nat} (h:k<l.length) : ∃ x, l[k]?=some x:=⟨_, List.getElem?_eq_getElem h⟩
/-! ### few -/
theorem few_run (m:List Sta) (n:Int) (hm:m.length<2^30) : ∃ b, PRun CB 317 [encMa m, .int .i64 n] (.bool b)∧(b=true→(m.length:Int)≤n∧∀ s, s∈m→s.arcs.length≤20):=by
  have h:=prunE_of (C:=CB) (f:=317) (ts:=[encMa m, .int .i64 n]) (k:=fun w=>∃ b, w = .bool b∧(b=true→(m.length:Int)≤n∧∀ s, s∈m→s.arcs.length≤20)) ac317 rfl (by
    unfold encMa
    by_cases hn:(m.length:Int)>n
    · (repeat' first|simp (disch:=omega) only[go_sem, ac317, enter, List.length_map]|(apply spl<;>intro h<;>try simp (disch:=omega) only[go_sem, ac317, enter, List.length_map, h]))
      all_goals first | omega | exact ⟨false, rfl, fun h=>by cases h⟩
    · (repeat' first|simp (disch:=omega) only[go_sem, ac317, enter, List.length_map]|(apply spl<;>intro h<;>try simp (disch:=omega) only[go_sem, ac317, enter, List.length_map, h]))
      all_goals try omega
      refine loop_of (α:=Nat) (fun a=>{ tmps:=slots 26 [(2, .ptr 1 0 0 0), (5, .int .i64 a)], heap:=[.row 1 [.agg [.tsl 2 (m.map encSta)]] false true 0], base:=0 }) (fun a=>a≤m.length∧∀ s, s∈m.take a→s.arcs.length≤20) (fun a=>m.length-a) 0 rfl ⟨Nat.zero_le _, by simp⟩ ?_
      rintro k ⟨hk, hs⟩
      skip
      by_cases hlt:k<m.length
      · obtain ⟨x, hx⟩:=exAt hlt
        have hx2:(m.map encSta)[k]?=some (.agg [.bool x.acc, .tsl 3 (x.arcs.map encArc)]):=mget hx
        by_cases h20:x.arcs.length≤20
        · (repeat' first|simp (disch:=omega) only[go_sem, hx2, List.length_map]|(apply spl<;>intro h<;>try simp (disch:=omega) only[go_sem, hx2, List.length_map, h]))
          all_goals try omega
          refine ⟨k+1, rfl, ⟨hlt, fun y hy=>?_⟩, by omega⟩
          rw[List.take_add_one, hx] at hy
          rcases List.mem_append.1 hy with hy | hy
          · exact hs y hy
          · have e:y=x:=by simpa using hy
            rw[e]
            exact h20
        · (repeat' first|simp (disch:=omega) only[go_sem, hx2, List.length_map]|(apply spl<;>intro h<;>try simp (disch:=omega) only[go_sem, hx2, List.length_map, h]))
          all_goals first | omega | exact ⟨false, rfl, fun h=>by cases h⟩
      · have hk2:k=m.length:=by omega
        rw[hk2, List.take_length] at hs
        (repeat' first|simp (disch:=omega) only[go_sem, List.length_map]|(apply spl<;>intro h<;>try simp (disch:=omega) only[go_sem, List.length_map, h]))
        all_goals first | omega | exact ⟨true, rfl, fun _=>⟨by omega, hs⟩⟩ | exact ⟨true, rfl, fun _=>hs⟩)
  obtain ⟨w, k1, b, rfl, k2⟩:=h
  exact ⟨b, k1, k2⟩
/-! ### the reference's state and Valid -/
def arcsOk (n:Int):Int→List Arc→Bool
  | lo, []=>lo == 256
  | lo, a::l=>decide (a.lo=lo) && decide (lo≤a.hi) && decide (a.hi≤255) && decide (0≤a.next) && decide (a.next<n) && arcsOk n (a.hi+1) l
theorem arcsOk_nil (n lo:Int):arcsOk n lo []=(lo == 256):=(rfl)
theorem arcsOk_cons (n lo:Int) (a:Arc) (l:List Arc):arcsOk n lo (a::l)=(decide (a.lo=lo) && decide (lo≤a.hi) && decide (a.hi≤255) && decide (0≤a.next) && decide (a.next<n) && arcsOk n (a.hi+1) l):=(rfl)
def validM (m:List Sta):Bool:=decide (1≤m.length) && decide (m.length≤1024) && m.all fun s=>arcsOk m.length 0 s.arcs
theorem state_run (s:Sta) (n:Int) (hs:s.arcs.length<2^30):PRun CB 350 [encSta s, .int .i64 n] (.bool (arcsOk n 0 s.arcs)):=by
  refine prun_of ac350 rfl ?_
  unfold encSta
  (repeat' first|simp (disch:=omega) only[go_sem, ac350, enter, List.length_map]|(apply spl<;>intro h<;>try simp (disch:=omega) only[go_sem, ac350, enter, List.length_map, h]))
  all_goals try omega
  refine loop_of (α:=Nat × Int) (fun a=>{ tmps:=slots 52 [(1, .int .i64 n), (2, .ptr 2 0 0 0), (5, .int .i64 a.2), (6, .int .i64 a.1)], heap:=[.row 2 [.agg [.bool s.acc, .tsl 3 (s.arcs.map encArc)]] false true 0], base:=0 }) (fun a=>a.1≤s.arcs.length∧0≤a.2∧a.2≤256∧arcsOk n a.2 (s.arcs.drop a.1)=arcsOk n 0 s.arcs) (fun a=>s.arcs.length-a.1) (0, 0) rfl ⟨Nat.zero_le _, by decide, by decide, rfl⟩ ?_
  rintro ⟨k, lo⟩ ⟨hk, h1, h2, h3⟩
  simp only at hk h1 h2 h3
  by_cases hlt:k<s.arcs.length
  · obtain ⟨x, hx⟩:=exAt hlt
    have hx2:(s.arcs.map encArc)[k]?=some (.agg [.int .i64 x.lo, .int .i64 x.hi, .int .i64 x.next]):=mget hx
    rw[dropC hx, arcsOk_cons] at h3
    by_cases c:x.lo=lo∧lo≤x.hi∧x.hi≤255∧0≤x.next∧x.next<n
    · obtain ⟨c1, c2, c3, c4, c5⟩:=c
      simp only[c1, c2, c3, c4, c5, decide_true, Bool.true_and] at h3
      (repeat' first|simp (disch:=omega) only[go_sem, hx2, List.length_map]|(apply spl<;>intro h<;>try simp (disch:=omega) only[go_sem, hx2, List.length_map, h]))
      all_goals try omega
      exact ⟨(k+1, x.hi+1), rfl, ⟨hlt, by simp only; omega, by simp only; omega, h3⟩, by simp only; omega⟩
    · have h4:arcsOk n 0 s.arcs=false:=by
        rw[←h3]
        by_cases c1:x.lo=lo<;>by_cases c2:lo≤x.hi<;>by_cases c3:x.hi≤255<;>by_cases c4:0≤x.next<;>by_cases c5:x.next<n<;>simp [c1, c2, c3, c4, c5]
        exact (c ⟨c1, c2, c3, c4, c5⟩).elim
      rw[h4]
      (repeat' first|simp (disch:=omega) only[go_sem, hx2, List.length_map]|(apply spl<;>intro h<;>try simp (disch:=omega) only[go_sem, hx2, List.length_map, h]))
      all_goals omega
  · have hk2:k=s.arcs.length:=by omega
    rw[hk2, List.drop_length, arcsOk_nil] at h3
    rw[←h3]
    (repeat' first|simp (disch:=omega) only[go_sem, List.length_map]|(apply spl<;>intro h<;>try simp (disch:=omega) only[go_sem, List.length_map, h]))
    all_goals first | omega | skip
end Ago
/- Automata: Valid on both sides, a step, Accepts. -/
set_option maxRecDepth 100000
set_option maxHeartbeats 4000000
namespace Ago
open Go (IntKind)
/-- Few states, few arcs. -/
def SmallM (m:List Sta):Prop:=m.length<2^30∧∀ s, s∈m→s.arcs.length<2^30
theorem refValid_run (m:List Sta) (h:SmallM m):PRun CB 326 [encMa m] (.bool (validM m)):=by
  obtain ⟨hm, ha⟩:=h
  refine prun_of ac326 rfl ?_
  unfold encMa
  (repeat' first|simp (disch:=omega) only[go_sem, ac326, enter, List.length_map]|(apply spl<;>intro h<;>try simp (disch:=omega) only[go_sem, ac326, enter, List.length_map, h]))
  all_goals try omega
  refine loop_of (α:=Nat) (fun a=>{ tmps:=slots 31 [(1, .ptr 1 0 0 0), (3, .int .i64 a)], heap:=[.row 1 [.agg [.tsl 2 (m.map encSta)]] false true 0], base:=0 }) (fun a=>a≤m.length∧∀ s, s∈m.take a→arcsOk m.length 0 s.arcs=true) (fun a=>m.length-a) 0 rfl ⟨Nat.zero_le _, by simp⟩ ?_
  rintro k ⟨hk, hs⟩
  by_cases hlt:k<m.length
  · obtain ⟨x, hx⟩:=exAt hlt
    have hxm:=List.mem_of_getElem? hx
    have hx2:(m.map encSta)[k]?=some (.agg [.bool x.acc, .tsl 3 (x.arcs.map encArc)]):=mget hx
    have h3:=state_run x m.length (ha x hxm)
    unfold encSta at h3
    cases hv:arcsOk m.length 0 x.arcs with
    | true=>
      rw[hv] at h3
      (repeat' first|simp (disch:=omega) only[go_sem, hx2, List.length_map]|refine pure_of _ (h3) ?_|(apply spl<;>intro h<;>try simp (disch:=omega) only[go_sem, hx2, List.length_map , h]))
      all_goals try omega
      refine ⟨k+1, rfl, ⟨hlt, fun y hy=>?_⟩, by omega⟩
      rw[List.take_add_one, hx] at hy
      rcases List.mem_append.1 hy with hy | hy
      · exact hs y hy
      · have e:y=x:=by simpa using hy
        rw[e]
        exact hv
    | false=>
      have h4:validM m=false:=by
        unfold validM
        have:(m.all fun s=>arcsOk m.length 0 s.arcs)=false:=by
          rw[List.all_eq_false]
          exact ⟨x, hxm, by rw[hv]; simp⟩
        rw[this, Bool.and_false]
      rw[hv] at h3
      rw[h4]
      (repeat' first|simp (disch:=omega) only[go_sem, hx2, List.length_map]|refine pure_of _ (h3) ?_|(apply spl<;>intro h<;>try simp (disch:=omega) only[go_sem, hx2, List.length_map , h]))
      all_goals omega
  · have hk2:k=m.length:=by omega
    rw[hk2, List.take_length] at hs
    have h4:validM m=(decide (1≤m.length) && decide (m.length≤1024)):=by
      unfold validM
      have:(m.all fun s=>arcsOk m.length 0 s.arcs)=true:=List.all_eq_true.2 hs
      rw[this, Bool.and_true]
    rw[h4]
    by_cases c1:1≤m.length<;>by_cases c2:m.length≤1024<;>simp only[c1, c2, decide_true, decide_false, Bool.and_true, Bool.and_false, Bool.true_and, Bool.false_and]<;>(repeat' first|simp (disch:=omega) only[go_sem, List.length_map]|(apply spl<;>intro h<;>try simp (disch:=omega) only[go_sem, List.length_map, h]))<;>omega
theorem validM_false {m:List Sta} {x:Sta} (hx:x∈m) (h:arcsOk m.length 0 x.arcs=false):validM m=false:=by
  unfold validM
  have:(m.all fun s=>arcsOk m.length 0 s.arcs)=false:=by
    rw[List.all_eq_false]
    exact ⟨x, hx, by rw[h]; simp⟩
  rw[this, Bool.and_false]
theorem valid_run (m:List Sta) (h:SmallM m):PRun CB 231 [encMa m] (.bool (validM m)):=by
  obtain ⟨hm, ha⟩:=h
  refine prun_of ac231 rfl ?_
  unfold encMa
  by_cases hlen:m.length<1∨1024<m.length
  · have h4:validM m=false:=by
      unfold validM
      by_cases c1:1≤m.length<;>by_cases c2:m.length≤1024<;>simp only[c1, c2, decide_true, decide_false, Bool.and_true, Bool.and_false, Bool.true_and, Bool.false_and]
      omega
    rw[h4]
    (repeat' first|simp (disch:=omega) only[go_sem, ac231, enter, List.length_map]|(apply spl<;>intro h<;>try simp (disch:=omega) only[go_sem, ac231, enter, List.length_map, h]))
    all_goals omega
  (repeat' first|simp (disch:=omega) only[go_sem, ac231, enter, List.length_map]|(apply spl<;>intro h<;>try simp (disch:=omega) only[go_sem, ac231, enter, List.length_map, h]))
  all_goals try omega
  refine loop_of (α:=Nat) (fun a=>{ tmps:=slots 68 [(1, .ptr 1 0 0 0), (19, .tsl 2 (m.map encSta)), (20, .int .i64 m.length), (21, .int .i64 a)], heap:=[.row 1 [.agg [.tsl 2 (m.map encSta)]] false true 0], base:=0 }) (fun a=>a≤m.length∧∀ s, s∈m.take a→arcsOk m.length 0 s.arcs=true) (fun a=>m.length-a) 0 rfl ⟨Nat.zero_le _, by simp⟩ ?_
  rintro k ⟨hk, hs⟩
  by_cases hlt:k<m.length
  · obtain ⟨x, hx⟩:=exAt hlt
    have hxm:=List.mem_of_getElem? hx
    have hxa:=ha x hxm
    have hx2:(m.map encSta)[k]?=some (.agg [.bool x.acc, .tsl 3 (x.arcs.map encArc)]):=mget hx
    (repeat' first|simp (disch:=omega) only[go_sem, hx2, List.length_map]|(apply spl<;>intro h<;>try simp (disch:=omega) only[go_sem, hx2, List.length_map, h]))
    all_goals try omega
    refine loop_of (α:=Nat × Int) (fun a=>{ tmps:=slots 68 [(1, .ptr 1 0 0 0), (5, .int .i64 a.2), (19, .tsl 2 (m.map encSta)), (20, .int .i64 m.length), (21, .int .i64 k), (26, .tsl 3 (x.arcs.map encArc)), (27, .int .i64 x.arcs.length), (28, .int .i64 a.1)], heap:=[.row 1 [.agg [.tsl 2 (m.map encSta)]] false true 0], base:=0 }) (fun a=>a.1≤x.arcs.length∧0≤a.2∧a.2≤256∧arcsOk m.length a.2 (x.arcs.drop a.1)=arcsOk m.length 0 x.arcs) (fun a=>x.arcs.length-a.1) (0, 0) rfl ⟨Nat.zero_le _, by decide, by decide, rfl⟩ ?_
    rintro ⟨j, lo⟩ ⟨hj, h1, h2, h3⟩
    simp only at hj h1 h2 h3
    by_cases hjt:j<x.arcs.length
    · obtain ⟨y, hy⟩:=exAt hjt
      have hy2:(x.arcs.map encArc)[j]?=some (.agg [.int .i64 y.lo, .int .i64 y.hi, .int .i64 y.next]):=mget hy
      rw[dropC hy, arcsOk_cons] at h3
      by_cases c:y.lo=lo∧lo≤y.hi∧y.hi≤255∧0≤y.next∧y.next<m.length
      · obtain ⟨c1, c2, c3, c4, c5⟩:=c
        simp only[c1, c2, c3, c4, c5, decide_true, Bool.true_and] at h3
        (repeat' first|simp (disch:=omega) only[go_sem, hy2, List.length_map]|(apply spl<;>intro h<;>try simp (disch:=omega) only[go_sem, hy2, List.length_map, h]))
        all_goals try omega
        exact ⟨(j+1, y.hi+1), rfl, ⟨hjt, by simp only; omega, by simp only; omega, h3⟩, by simp only; omega⟩
      · have h4:arcsOk m.length 0 x.arcs=false:=by
          rw[←h3]
          by_cases c1:y.lo=lo<;>by_cases c2:lo≤y.hi<;>by_cases c3:y.hi≤255<;>by_cases c4:0≤y.next<;>by_cases c5:y.next<m.length<;>simp [c1, c2, c3, c4, c5]
          exact (c ⟨c1, c2, c3, c4, c5⟩).elim
        rw[validM_false hxm h4]
        (repeat' first|simp (disch:=omega) only[go_sem, hy2, List.length_map]|(apply spl<;>intro h<;>try simp (disch:=omega) only[go_sem, hy2, List.length_map, h]))
        all_goals omega
    · have hj2:j=x.arcs.length:=by omega
      rw[hj2, List.drop_length, arcsOk_nil] at h3
      by_cases c:lo=256
      · have hv:arcsOk m.length 0 x.arcs=true:=by
          rw[←h3, c]
          rfl
        (repeat' first|simp (disch:=omega) only[go_sem, List.length_map]|(apply spl<;>intro h<;>try simp (disch:=omega) only[go_sem, List.length_map, h]))
        all_goals try omega
        refine ⟨k+1, rfl, ⟨hlt, fun y hy=>?_⟩, by omega⟩
        rw[List.take_add_one, hx] at hy
        rcases List.mem_append.1 hy with hy | hy
        · exact hs y hy
        · have e:y=x:=by simpa using hy
          rw[e]
          exact hv
      · have h4:arcsOk m.length 0 x.arcs=false:=by
          rw[←h3]
          simpa using c
        rw[validM_false hxm h4]
        (repeat' first|simp (disch:=omega) only[go_sem, List.length_map]|(apply spl<;>intro h<;>try simp (disch:=omega) only[go_sem, List.length_map, h]))
        all_goals omega
  · have hk2:k=m.length:=by omega
    rw[hk2, List.take_length] at hs
    have h4:validM m=true:=by
      unfold validM
      have:(m.all fun s=>arcsOk m.length 0 s.arcs)=true:=List.all_eq_true.2 hs
      rw[this]
      simp
      omega
    rw[h4]
    (repeat' first|simp (disch:=omega) only[go_sem, List.length_map]|(apply spl<;>intro h<;>try simp (disch:=omega) only[go_sem, List.length_map, h]))
    all_goals omega
end Ago
/- Heads of loops whose heap holds a row of rows, of unknown number: what is reached, and its new numbers. -/
namespace Ago
/-- A write leaves the other blocks of the heap as they are, if none of them shares memory with what is written. -/
theorem strikeGo_same (r fam k:Nat) : ∀ (H:Heap) (i:Nat), (∀ j n els ro fl, H[j]?=some (.row n els ro fl fam)→i+j=r∨els.length<k)→strikeGo r fam k H i=some H
  | [], _, _=>rfl
  | b::H, i, h=>by
    have ih:=strikeGo_same r fam k H (i+1) fun j n els ro fl hj=>by
      have:=h (j+1) n els ro fl (by simpa using hj)
      omega
    unfold strikeGo
    rw[ih]
    cases b with
    | row n els ro fl fam'=>
      simp only
      rw[if_neg]
      rintro ⟨h1, h2, h3⟩
      subst h1
      have:=h 0 n els ro fl (by simp)
      omega
    | _=>rfl
theorem strike_same {H:Heap} {r fam k:Nat} (h : ∀ j n els ro fl, H[j]?=some (.row n els ro fl fam)→j=r∨els.length<k):H.strike r fam k=some H:=strikeGo_same r fam k H 0 fun j n els ro fl hj=>by
  have:=h j n els ro fl hj
  omega
/-- Every block is a row of its own family. -/
def Own (H:Heap):Prop:=∀ (j:Nat) (b:Blk), H[j]?=some b→∃ n els fl, b=Blk.row n els false fl j
theorem Own.fresh {H:Heap} (h:Own H) {r fam k:Nat} (hf:H.length≤fam):H.strike r fam k=some H:=strike_same fun j n els ro fl hj=>by
  obtain ⟨_, _, _, e⟩:=h j _ hj
  cases e
  have:=(List.getElem?_eq_some_iff.1 hj).1
  omega
theorem Own.set {H:Heap} (h:Own H) {j n:Nat} {els:List AV} {fl:Bool}:Own (H.set j (.row n els false fl j)):=fun i b hb=>by
  rw[List.getElem?_set] at hb
  split at hb
  · rename_i e
    subst e
    split at hb
    · cases hb
      exact ⟨n, els, fl, rfl⟩
    · cases hb
  · exact h i b hb
theorem Own.add {H:Heap} (h:Own H) {n j:Nat} {els:List AV} {fl:Bool} (hj:j=H.length):Own (H++[.row n els false fl j]):=fun i b hb=>by
  by_cases hi:i<H.length
  · rw[List.getElem?_append_left hi] at hb
    exact h i b hb
  · rw[List.getElem?_append_right (by omega)] at hb
    have hi0:i-H.length=0:=by
      have:=(List.getElem?_eq_some_iff.1 hb).1
      simp at this
      omega
    rw[hi0] at hb
    cases hb
    exact ⟨n, els, fl, by rw[show i=j by omega]⟩
theorem gP0 {H l:Heap} {b:Blk} {m:Nat} (h:m=H.length):(H++b::l)[m]?=some b:=by
  subst h
  rw[List.getElem?_append_right (Nat.le_refl _), Nat.sub_self]
  rfl
theorem sP0 {H l:Heap} {b x:Blk} {m:Nat} (h:m=H.length):(H++b::l).set m x=H++x::l:=by
  subst h
  rw[List.set_append_right _ _ (Nat.le_refl _), Nat.sub_self]
  rfl
theorem gL {H l:Heap} {m:Nat} (h:m<H.length):(H++l)[m]?=H[m]?:=List.getElem?_append_left h
theorem sL {H l:Heap} {m:Nat} {x:Blk} (h:m<H.length):(H++l).set m x=H.set m x++l:=List.set_append_left _ _ h
end Ago
/- Heads of loops over a heap whose blocks are told one by one, where rows of slices and maps are told by their references; heads that hold slices as trees. -/
namespace Ago
def reachR (R:List (List Nat)):Nat→List Nat→List Nat→List Nat
  | 0, _, seen=>seen
  | _+1, [], seen=>seen
  | k+1, r::todo, seen=>
    if seen.contains r then reachR R k todo seen
    else
      match R[r]? with
      | none=>reachR R k todo seen
      | some l=>reachR R k (l++todo) (seen++[r])
theorem reach_R (H:Heap) : ∀ (k:Nat) (todo seen:List Nat), reach H 0 k todo seen=reachR (H.map Blk.refs) k todo seen
  | 0, _, _=>rfl
  | _+1, [], _=>rfl
  | k+1, r::todo, seen=>by
    unfold reach reachR
    rw[if_neg (Nat.not_lt_zero r), List.getElem?_map]
    cases H[r]? with
    | none=>simp only[Option.map_none, reach_R H k]
    | some b=>simp only[Option.map_some, reach_R H k]
/-- The head of a loop, by what the blocks refer to. -/
theorem norm_by {live:List Nat} {tm tm':List AV} {H H':Heap} {rb:Nat} {R:List (List Nat)} {ks:List Nat} {dr:List (Nat × Nat)} (hR:H.map Blk.refs=R) (hk:reachR R 4000 ((keepLive live 0 tm).flatMap (AV.refsN 6)) []=ks)
    (hc:(ks.all fun r=>(R.getD r []).all fun q=>(renOf 0 ks q).isSome)=true) (hd:droppedGo ks H 0=dr) (hf:roFit dr (ks.map fun r=>H.getD r .gone)=true) (ht:(keepLive live 0 tm).map (AV.renN (renOf 0 ks) 6)=tm')
    (hh:(roMark dr (ks.map fun r=>H.getD r .gone)).map (Blk.ren (renOf 0 ks) (famRen H 0 ks))=H'):St.norm live ⟨tm, H, 0, rb⟩=⟨tm', H', 0, 0⟩:=by
  unfold St.norm St.normTm
  simp only[List.take_zero, List.flatMap_nil, List.append_nil, reach_R, hR, hk]
  unfold St.normBy
  have hcl:closedBy (renOf 0 ks) (ks.map fun r=>H.getD r .gone)=true:=by
    unfold closedBy
    rw[List.all_eq_true] at hc ⊢
    intro b hb
    obtain ⟨r, hr, rfl⟩:=List.mem_map.1 hb
    have:=hc r hr
    rw[←hR] at this
    rw[List.getD_eq_getElem?_getD, List.getElem?_map] at this
    rw[List.getD_eq_getElem?_getD]
    cases hb:H[r]? with
    | none=>rfl
    | some b=>
      rw[hb] at this
      exact this
  simp only[List.take_zero, List.nil_append, List.drop_zero, hd, hcl, hf, ht, hh, Bool.and_self, normIf]
theorem norm_by0 {live:List Nat} {tm tm':List AV} {H H':Heap} {rb:Nat} (R:List (List Nat)) (ks:List Nat) (hR:H.map Blk.refs=R) (hk:reachR R 4000 ((keepLive live 0 tm).flatMap (AV.refsN 6)) []=ks)
    (hc:(ks.all fun r=>(R.getD r []).all fun q=>(renOf 0 ks q).isSome)=true) (hd:droppedGo ks H 0=[]) (ht:(keepLive live 0 tm).map (AV.renN (renOf 0 ks) 6)=tm')
    (hh:(ks.map fun r=>H.getD r .gone).map (Blk.ren (renOf 0 ks) (famRen H 0 ks))=H'):St.norm live ⟨tm, H, 0, rb⟩=⟨tm', H', 0, 0⟩:=norm_by hR hk hc hd rfl ht hh
theorem thawAt_get' (H:Heap) (rs:List Nat) : ∀ (G:Heap) (j i:Nat), (thawAt H rs j G)[i]?=(G[i]?).map fun b=>if rs.contains (j+i) then b.thaw H else b
  | [], j, i=>by simp [thawAt]
  | b::bs, j, 0=>by simp [thawAt]
  | b::bs, j, i+1=>by
    simp only[thawAt, List.getElem?_cons_succ]
    rw[thawAt_get' H rs bs (j+1) i, show j+1+i=j+(i+1) by omega]
/-- One row's slices are held as trees. -/
theorem thaw_row1 {H:Heap} {r n:Nat} {els els':List AV} {ro fl':Bool} {fam:Nat} {ks:List Nat} (hb:(markRO H ks)[r]?=some (.row n els ro false fam)) (hb0 : ∃ ro0, H[r]?=some (.row n els ro0 false fam)) (hq:els.flatMap (fun x=>x.cells.flatMap (thawRefsC H))=ks) (he:els.map (thawE H)=els')
    (hf:(els'.all fun x=>x.isPure && x.aged)=fl'):thawRows [r] H=(markRO H ks).set r (.row n els' ro fl' fam):=by
  obtain ⟨ro0, hb0⟩:=hb0
  unfold thawRows
  have h1:([r].flatMap fun r=>(H.getD r .gone).thawRefs H)=ks:=by
    rw[List.flatMap_cons, List.flatMap_nil, List.append_nil, List.getD_eq_getElem?_getD, hb0]
    exact hq
  rw[h1]
  apply List.ext_getElem?
  intro i
  rw[thawAt_get', List.getElem?_set, Nat.zero_add]
  by_cases hi:r=i
  · subst hi
    rw[if_pos rfl, if_pos (List.getElem?_eq_some_iff.1 hb).1, hb, Option.map_some, if_pos (by simp)]
    show some (Blk.row n (els.map (thawE H)) ro ((els.map (thawE H)).all fun x=>x.isPure && x.aged) fam)=_
    rw[he, hf]
  · rw[if_neg hi]
    have:[r].contains i=false:=by simpa using fun h=>hi h.symm
    simp only[this, Bool.false_eq_true, if_false, Option.map_id']
/-- A row without references stays as it is. -/
theorem thaw_flat {H:Heap} {r n:Nat} {els:List AV} {ro:Bool} {fam:Nat} (hb:H[r]?=some (.row n els ro true fam)):thawRows [r] H=H:=by
  unfold thawRows
  have h1:([r].flatMap fun r=>(H.getD r .gone).thawRefs H)=[]:=by
    rw[List.flatMap_cons, List.flatMap_nil, List.append_nil, List.getD_eq_getElem?_getD, hb]
    rfl
  rw[h1]
  apply List.ext_getElem?
  intro i
  rw[thawAt_get', Nat.zero_add]
  show ((markRO H [])[i]?).map _=H[i]?
  rw[show markRO H []=H from rfl]
  by_cases hi:r=i
  · subst hi
    rw[hb, Option.map_some, if_pos (by simp)]
    rfl
  · have:[r].contains i=false:=by simpa using fun h=>hi h.symm
    simp only[this, Bool.false_eq_true, if_false, Option.map_id']
end Ago
/- Calls over a heap that is not told. -/
set_option maxRecDepth 100000
set_option maxHeartbeats 4000000
namespace Ago
open Go (IntKind)
/-- A heap that lies below: what it refers to lies in it, and it is not renamed. -/
structure Cl (H:Heap):Prop where
  refs : ∀ b, b∈H→∀ r, r∈b.refs→r<H.length
  ren : ∀ b, b∈H→∀ f g, (∀ r, r<H.length→f r=some r)→(∀ r, r<H.length→g r=r)→Blk.ren f g b=b
theorem Cl.nil:Cl []:=⟨fun b h=>(by cases h), fun b h=>(by cases h)⟩
theorem Cl.push {H:Heap} (h:Cl H) (n:Nat) (els:List AV) (ro:Bool) (fam:Nat) (hf:fam≤H.length):Cl (H++[.row n els ro true fam]):=by
  refine ⟨fun b hb r hr=>?_, fun b hb f g hf2 hg2=>?_⟩
  · rcases List.mem_append.1 hb with hb | hb
    · have:=h.refs b hb r hr
      simp
      omega
    · rw[List.mem_singleton.1 hb] at hr
      simp [Blk.refs] at hr
  · rcases List.mem_append.1 hb with hb | hb
    · exact h.ren b hb f g (fun r hr=>hf2 r (by simp; omega)) (fun r hr=>hg2 r (by simp; omega))
    · rw[List.mem_singleton.1 hb]
      simp [Blk.ren, hg2 fam (by simp; omega)]
theorem reach_lowC (H:Heap) (base:Nat) : ∀ (k:Nat) (todo seen:List Nat), (∀ r, r∈todo→r<base)→reach H base k todo seen=seen
  | 0, _, _, _=>rfl
  | _+1, [], _, _=>rfl
  | k+1, r::todo, seen, h=>by
    unfold reach
    rw[if_pos (h r (by simp))]
    exact reach_lowC H base k todo seen fun x hx=>h x (by simp [hx])
theorem reach_app (H:Heap) (base:Nat) : ∀ (k:Nat) (todo low seen:List Nat), (∀ r, r∈low→r<base)→reach H base k (todo++low) seen=reach H base k todo seen
  | 0, _, _, _, _=>rfl
  | k+1, [], low, seen, h=>by
    rw[List.nil_append, reach_lowC H base (k+1) low seen h]
    rfl
  | k+1, r::todo, low, seen, h=>by
    rw[List.cons_append]
    unfold reach
    split
    · exact reach_app H base k todo low seen h
    · split
      · exact reach_app H base k todo low seen h
      · split
        · exact reach_app H base k todo low seen h
        · rw[←List.append_assoc]
          exact reach_app H base k _ low _ h
def Blk.roB:Blk→Bool
  | .row _ _ ro _ _=>ro
  | _=>false
theorem dropped_ro (ks:List Nat) : ∀ (E:Heap) (j:Nat), (∀ b, b∈E→b.roB=false)→droppedGo ks E j=[]
  | [], _, _=>rfl
  | b::E, j, h=>by
    have ih:=dropped_ro ks E (j+1) fun x hx=>h x (by simp [hx])
    have hb:=h b (by simp)
    cases b with
    | row n els ro fl fam=>
      simp only[Blk.roB] at hb
      subst hb
      exact ih
    | _=>exact ih
theorem norm_cl {live:List Nat} {tm:List AV} {H E:Heap} {m rb:Nat} {L L':List AV} {ks:List Nat} {K:Heap} (hm:m=H.length) (hC:Cl H) (hE : ∀ b, b∈E→b.roB=false) (hL:keepLive live 0 tm=L) (hr:reach (H++E) m 4000 (L.flatMap (AV.refsN 6)) []=ks)
    (hk : ∀ r, r∈ks→((H++E).getD r .gone).refs=[]) (hi:L.map (AV.renN (renOf m ks) 6)=L') (hK:(ks.map fun r=>(H++E).getD r .gone).map (Blk.ren (renOf m ks) (famRen (H++E) m ks))=K):St.norm live ⟨tm, H++E, m, rb⟩=⟨L', H++K, m, 0⟩:=by
  subst hm
  unfold St.norm St.normTm
  rw[hL]
  have h1:((H++E).take H.length)=H:=by simp
  have h2:((H++E).drop H.length)=E:=by simp
  simp only[h1]
  rw[reach_app _ _ _ _ _ _ (fun r hr=>by
    obtain ⟨b, hb, hr⟩:=List.mem_flatMap.1 hr
    exact hC.refs b hb r hr), hr]
  unfold St.normBy
  simp only[h1, h2]
  rw[dropped_ro ks E _ hE]
  have hc:closedBy (renOf H.length ks) (H++ks.map fun r=>(H++E).getD r .gone)=true:=by
    unfold closedBy
    rw[List.all_eq_true]
    intro b hb
    rw[List.all_eq_true]
    intro q hq
    rcases List.mem_append.1 hb with hb | hb
    · have:=hC.refs b hb q hq
      unfold renOf
      rw[if_pos this]
      rfl
    · obtain ⟨r, h3, rfl⟩:=List.mem_map.1 hb
      rw[hk r h3] at hq
      cases hq
  simp only[hc, roFit, roMark, Bool.and_self, normIf, hi]
  rw[List.map_append, hK]
  have h4:H.map (Blk.ren (renOf H.length ks) (famRen (H++E) H.length ks))=H:=by
    rw[List.map_congr_left (g:=id) (fun b hb=>hC.ren b hb _ _ (fun r hr=>by unfold renOf; rw[if_pos hr]) (fun r hr=>by unfold famRen; rw[if_pos hr])), List.map_id]
  rw[h4]
/-- What a function owes at its end. -/
def PostC (base:Nat) (res:List ResV) (v:AV) (H':Heap) (e:Ex) (s:St):Prop:=(e = .normal∨e = .ret)∧∃ u, results res s=some u∧(tidy base u s.heap).tmps.getD 0 .dead=v∧(tidy base u s.heap).heap=H'
theorem runC_of {C:Ctx} {f:Nat} (fn:AFn) {args:List AV} {H H':Heap} {v:AV} (hf:C.code f=some fn) (h : @withStI (enter fn args H) ⟨aw (RunOf C) (PRun C) fn.body (PostC H.length fn.res v H')⟩):RunOf C f args H v H':=by
  unfold withStI at h
  obtain ⟨e, s, h1, he, u, h2, rfl, rfl⟩:=aw_sound _ _ _ h
  exact .run hf h1 he h2
theorem postC_of {m:Nat} {res:List ResV} {v u:AV} {H E K:Heap} {tm:List AV} {b rb:Nat} {e:Ex} {ks:List Nat} (he:e = .normal∨e = .ret) (hres:results res ⟨tm, H++E, b, rb⟩=some u) (hm:m=H.length) (hC:Cl H) (hE : ∀ b, b∈E→b.roB=false)
    (hr:reach (H++E) m 4000 (AV.refsN 6 u) []=ks) (hk : ∀ r, r∈ks→((H++E).getD r .gone).refs=[]) (hi:AV.renN (renOf m ks) 6 u=v) (hK:(ks.map fun r=>(H++E).getD r .gone).map (Blk.ren (renOf m ks) (famRen (H++E) m ks))=K):PostC m res v (H++K) e ⟨tm, H++E, b, rb⟩:=by
  have:=norm_cl (live:=[0]) (tm:=[u]) (rb:=0) (L:=[u]) (L':=[v]) hm hC hE rfl (by simpa using hr) hk (by simp [hi]) hK
  refine ⟨he, u, hres, ?_, ?_⟩
  · unfold tidy
    rw[this]
    rfl
  · unfold tidy
    rw[this]
end Ago
/- Automata: the next state. -/
set_option maxRecDepth 100000
set_option maxHeartbeats 4000000
namespace Ago
open Go (IntKind)
def nextGo (b:Int):List Arc→Int
  | []=>0
  | a::l=>if a.lo≤b∧b≤a.hi then a.next else nextGo b l
def stepGo (b:Int):List Arc→Int
  | []=>0
  | a::l=>if b≤a.hi then a.next else stepGo b l
theorem nextGo_nil (b:Int):nextGo b []=0:=(rfl)
theorem nextGo_cons (b:Int) (a:Arc) (l:List Arc):nextGo b (a::l)=if a.lo≤b∧b≤a.hi then a.next else nextGo b l:=(rfl)
theorem stepGo_nil (b:Int):stepGo b []=0:=(rfl)
theorem stepGo_cons (b:Int) (a:Arc) (l:List Arc):stepGo b (a::l)=if b≤a.hi then a.next else stepGo b l:=(rfl)
theorem step_next {n:Int} {b:Int} : ∀ (l:List Arc) (lo:Int), arcsOk n lo l=true→lo≤b→stepGo b l=nextGo b l
  | [], _, _, _=>rfl
  | a::l, lo, h, hb=>by
    rw[arcsOk_cons] at h
    simp only[Bool.and_eq_true, decide_eq_true_eq] at h
    obtain ⟨⟨⟨⟨⟨h1, h2⟩, h3⟩, h4⟩, h5⟩, h6⟩:=h
    rw[stepGo_cons, nextGo_cons]
    by_cases c:b≤a.hi
    · rw[if_pos c, if_pos ⟨by omega, c⟩]
    · rw[if_neg c, if_neg (fun h=>c h.2)]
      exact step_next l _ h6 (by omega)
theorem next_in {n:Int} {b:Int} : ∀ (l:List Arc) (lo:Int), arcsOk n lo l=true→lo≤b→b<256→0≤nextGo b l∧nextGo b l<n
  | [], lo, h, hb, hb2=>by
    rw[arcsOk_nil] at h
    have:lo=256:=by simpa using h
    omega
  | a::l, lo, h, hb, hb2=>by
    rw[arcsOk_cons] at h
    simp only[Bool.and_eq_true, decide_eq_true_eq] at h
    obtain ⟨⟨⟨⟨⟨h1, h2⟩, h3⟩, h4⟩, h5⟩, h6⟩:=h
    rw[nextGo_cons]
    by_cases c:a.lo≤b∧b≤a.hi
    · rw[if_pos c]
      exact ⟨h4, h5⟩
    · rw[if_neg c]
      exact next_in l _ h6 (by omega) hb2
theorem next_run (m:List Sta) (h:SmallM m) (q:Nat) (x:Sta) (hx:m[q]?=some x) (b:Int):PRun CB 351 [encMa m, .int .i64 q, .int .i64 b] (.int .i64 (nextGo b x.arcs)):=by
  obtain ⟨hm, ha⟩:=h
  have hxm:=List.mem_of_getElem? hx
  have hxa:=ha x hxm
  have hq:=(List.getElem?_eq_some_iff.1 hx).1
  have hx2:(m.map encSta)[q]?=some (.agg [.bool x.acc, .tsl 3 (x.arcs.map encArc)]):=mget hx
  refine prun_of ac351 rfl ?_
  unfold encMa
  (repeat' first|simp (disch:=omega) only[go_sem, ac351, enter, List.length_map]|(apply spl<;>intro h<;>try simp (disch:=omega) only[go_sem, ac351, enter, List.length_map, h]))
  all_goals try omega
  refine loop_of (α:=Nat) (fun a=>{ tmps:=slots 41 [(1, .int .i64 q), (2, .int .i64 b), (3, .ptr 1 0 0 0), (7, .int .i64 a)], heap:=[.row 1 [.agg [.tsl 2 (m.map encSta)]] false true 0], base:=0 }) (fun a=>a≤x.arcs.length∧nextGo b (x.arcs.drop a)=nextGo b x.arcs) (fun a=>x.arcs.length-a) 0 rfl ⟨Nat.zero_le _, rfl⟩ ?_
  rintro j ⟨hj, h3⟩
  by_cases hjt:j<x.arcs.length
  · obtain ⟨y, hy⟩:=exAt hjt
    have hy2:(x.arcs.map encArc)[j]?=some (.agg [.int .i64 y.lo, .int .i64 y.hi, .int .i64 y.next]):=mget hy
    rw[dropC hy, nextGo_cons] at h3
    by_cases c1:y.lo≤b<;>by_cases c2:b≤y.hi
    · rw[if_pos ⟨c1, c2⟩] at h3
      rw[←h3]
      (repeat' first|simp (disch:=omega) only[go_sem, hx2, hy2, List.length_map]|(apply spl<;>intro h<;>try simp (disch:=omega) only[go_sem, hx2, hy2, List.length_map, h]))
      all_goals omega
    all_goals
      rw[if_neg (by omega)] at h3
      (repeat' first|simp (disch:=omega) only[go_sem, hx2, hy2, List.length_map]|(apply spl<;>intro h<;>try simp (disch:=omega) only[go_sem, hx2, hy2, List.length_map, h]))
      all_goals try omega
      exact ⟨j+1, rfl, ⟨hjt, h3⟩, by omega⟩
  · have hj2:j=x.arcs.length:=by omega
    rw[hj2, List.drop_length, nextGo_nil] at h3
    rw[←h3]
    (repeat' first|simp (disch:=omega) only[go_sem, hx2, List.length_map]|(apply spl<;>intro h<;>try simp (disch:=omega) only[go_sem, hx2, List.length_map, h]))
    all_goals omega
theorem step_run (m:List Sta) (h:SmallM m) (q:Nat) (x:Sta) (hx:m[q]?=some x) (b:Int):PRun CB 252 [encMa m, .int .i64 q, .int .i64 b] (.int .i64 (stepGo b x.arcs)):=by
  obtain ⟨hm, ha⟩:=h
  have hxm:=List.mem_of_getElem? hx
  have hxa:=ha x hxm
  have hq:=(List.getElem?_eq_some_iff.1 hx).1
  have hx2:(m.map encSta)[q]?=some (.agg [.bool x.acc, .tsl 3 (x.arcs.map encArc)]):=mget hx
  refine prun_of ac252 rfl ?_
  unfold encMa
  (repeat' first|simp (disch:=omega) only[go_sem, ac252, enter, hx2, List.length_map]|(apply spl<;>intro h<;>try simp (disch:=omega) only[go_sem, ac252, enter, hx2, List.length_map, h]))
  all_goals try omega
  refine loop_of (α:=Nat) (fun a=>{ tmps:=slots 27 [(2, .int .i64 b), (14, .tsl 3 (x.arcs.map encArc)), (15, .int .i64 x.arcs.length), (16, .int .i64 a)], heap:=[], base:=0 }) (fun a=>a≤x.arcs.length∧stepGo b (x.arcs.drop a)=stepGo b x.arcs) (fun a=>x.arcs.length-a) 0 rfl ⟨Nat.zero_le _, rfl⟩ ?_
  rintro j ⟨hj, h3⟩
  by_cases hjt:j<x.arcs.length
  · obtain ⟨y, hy⟩:=exAt hjt
    have hy2:(x.arcs.map encArc)[j]?=some (.agg [.int .i64 y.lo, .int .i64 y.hi, .int .i64 y.next]):=mget hy
    rw[dropC hy, stepGo_cons] at h3
    by_cases c2:b≤y.hi
    · rw[if_pos c2] at h3
      rw[←h3]
      (repeat' first|simp (disch:=omega) only[go_sem, hy2, List.length_map]|(apply spl<;>intro h<;>try simp (disch:=omega) only[go_sem, hy2, List.length_map, h]))
      all_goals omega
    · rw[if_neg c2] at h3
      (repeat' first|simp (disch:=omega) only[go_sem, hy2, List.length_map]|(apply spl<;>intro h<;>try simp (disch:=omega) only[go_sem, hy2, List.length_map, h]))
      all_goals try omega
      exact ⟨j+1, rfl, ⟨hjt, h3⟩, by omega⟩
  · have hj2:j=x.arcs.length:=by omega
    rw[hj2, List.drop_length, stepGo_nil] at h3
    rw[←h3]
    (repeat' first|simp (disch:=omega) only[go_sem, List.length_map]|(apply spl<;>intro h<;>try simp (disch:=omega) only[go_sem, List.length_map, h]))
    all_goals omega
theorem valid_arcs {m:List Sta} (h:validM m=true) {x:Sta} (hx:x∈m):arcsOk m.length 0 x.arcs=true:=by
  unfold validM at h
  simp only[Bool.and_eq_true, List.all_eq_true] at h
  exact h.2 x hx
theorem valid_len {m:List Sta} (h:validM m=true):1≤m.length:=by
  unfold validM at h
  simp only[Bool.and_eq_true, decide_eq_true_eq] at h
  exact h.1.1
end Ago
/- Classes of states, plainly: numbers by first places, keys as texts. -/
set_option maxRecDepth 100000
set_option maxHeartbeats 4000000
namespace Ago
section
variable {K L:Type} [DecidableEq K] [DecidableEq L]
/-- The number of an element among those that were met: its place, or the next number. -/
def numGo:List K→List K→List Nat × List K
  | seen, []=>([], seen)
  | seen, x::l=>if x∈seen then ((seen.idxOf x)::(numGo seen l).1, (numGo seen l).2) else (seen.length::(numGo (seen++[x]) l).1, (numGo (seen++[x]) l).2)
theorem numGo_nil (seen:List K):numGo seen []=([], seen):=(rfl)
theorem numGo_in {seen:List K} {x:K} (l:List K) (h:x∈seen):numGo seen (x::l)=(seen.idxOf x::(numGo seen l).1, (numGo seen l).2):=by
  conv=>lhs; unfold numGo
  rw[if_pos h]
theorem numGo_new {seen:List K} {x:K} (l:List K) (h:x∉seen):numGo seen (x::l)=(seen.length::(numGo (seen++[x]) l).1, (numGo (seen++[x]) l).2):=by
  conv=>lhs; unfold numGo
  rw[if_neg h]
theorem numGo_len : ∀ (l seen:List K), (numGo seen l).1.length=l.length
  | [], _=>rfl
  | x::l, seen=>by
    by_cases h:x∈seen
    · rw[numGo_in l h, List.length_cons, List.length_cons, numGo_len l]
    · rw[numGo_new l h, List.length_cons, List.length_cons, numGo_len l]
theorem idxOf_map {f:K→L} (hf : ∀ x y, f x=f y→x=y) (x:K) : ∀ l:List K, (l.map f).idxOf (f x)=l.idxOf x
  | []=>rfl
  | y::l=>by
    rw[List.map_cons, List.idxOf_cons, List.idxOf_cons, idxOf_map hf x l]
    by_cases h:y=x
    · subst h
      simp
    · have h2 : ¬ f y=f x:=fun e=>h (hf _ _ e)
      have e1:(y == x)=false:=by simpa using h
      have e2:(f y == f x)=false:=by simpa using h2
      rw[e1, e2]
/-- Keys that tell apart what is apart give the same numbers. -/
theorem numGo_map {f:K→L} {ok:K→Prop} (hf : ∀ x y, ok x→ok y→f x=f y→x=y) : ∀ (l seen:List K), (∀ x, x∈l→ok x)→(∀ x, x∈seen→ok x)→numGo (seen.map f) (l.map f)=((numGo seen l).1, (numGo seen l).2.map f)
  | [], _, _, _=>rfl
  | x::l, seen, hl, hs=>by
    have hx:=hl x (List.mem_cons_self ..)
    have hl':=fun y hy=>hl y (List.mem_cons_of_mem _ hy)
    have hm:f x∈seen.map f↔x∈seen:=by
      constructor
      · intro h
        obtain ⟨y, hy, he⟩:=List.mem_map.1 h
        rw[←hf y x (hs y hy) hx he]
        exact hy
      · exact List.mem_map_of_mem
    rw[List.map_cons]
    by_cases h:x∈seen
    · rw[numGo_in _ (hm.2 h), numGo_in l h, numGo_map hf l seen hl' hs]
      have:(seen.map f).idxOf (f x)=seen.idxOf x:=by
        clear hm h
        induction seen with
        | nil=>rfl
        | cons y seen ih=>
          rw[List.map_cons, List.idxOf_cons, List.idxOf_cons, ih fun z hz=>hs z (List.mem_cons_of_mem _ hz)]
          by_cases h:y=x
          · subst h
            simp
          · have h2 : ¬ f y=f x:=fun e=>h (hf _ _ (hs y (List.mem_cons_self ..)) hx e)
            have e1:(y == x)=false:=by simpa using h
            have e2:(f y == f x)=false:=by simpa using h2
            rw[e1, e2]
      rw[this]
    · rw[numGo_new _ (fun e=>h (hm.1 e)), numGo_new l h]
      have ih:=numGo_map hf l (seen++[x]) hl' fun y hy=>by
        rcases List.mem_append.1 hy with hy | hy
        · exact hs y hy
        · rw[List.mem_singleton.1 hy]
          exact hx
      rw[List.map_append, List.map_cons, List.map_nil] at ih
      rw[ih, List.length_map]
end
/-- A number in digits. -/
def itD (n:Nat):List UInt8:=Go.Lib.decDigits n
/-- The key of a list of numbers. -/
def keyT:List Nat→List UInt8
  | []=>[]
  | n::l=>44::itD n++keyT l
def keyL:List Nat→List UInt8
  | []=>[]
  | n::l=>itD n++keyT l
theorem itD_no (a:Nat) : ∀ c, c∈itD a→c≠44:=(valD_dec a).2
/-- Texts without the comma ahead of nothing or of a comma. -/
theorem split_comma : ∀ (a b s t:List UInt8), (∀ c, c∈a→c≠44)→(∀ c, c∈b→c≠44)→(s=[]∨∃ u, s=44::u)→(t=[]∨∃ u, t=44::u)→a++s=b++t→a=b∧s=t
  | [], [], s, t, _, _, _, _, h=>⟨rfl, h⟩
  | [], y::b, s, t, _, hb, hs, _, h=>by
    rcases hs with rfl | ⟨u, rfl⟩
    · simp at h
    · simp only[List.nil_append, List.cons_append, List.cons.injEq] at h
      exact absurd h.1.symm (hb y (List.mem_cons_self ..))
  | x::a, [], s, t, ha, _, _, ht, h=>by
    rcases ht with rfl | ⟨u, rfl⟩
    · simp at h
    · simp only[List.nil_append, List.cons_append, List.cons.injEq] at h
      exact absurd h.1 (ha x (List.mem_cons_self ..))
  | x::a, y::b, s, t, ha, hb, hs, ht, h=>by
    simp only[List.cons_append, List.cons.injEq] at h
    obtain ⟨h1, h2⟩:=split_comma a b s t (fun c hc=>ha c (List.mem_cons_of_mem _ hc)) (fun c hc=>hb c (List.mem_cons_of_mem _ hc)) hs ht h.2
    exact ⟨by rw[h.1, h1], h2⟩
theorem keyT_head (l:List Nat):keyT l=[]∨∃ u, keyT l=44::u:=by
  cases l with
  | nil=>exact .inl rfl
  | cons n l=>exact .inr ⟨_, rfl⟩
theorem itD_inj' {a b:Nat} (_:a<1000000) (_:b<1000000) (h:itD a=itD b):a=b:=dec_inj h
theorem keyT_inj : ∀ (l m:List Nat), (∀ x, x∈l→x<1000000)→(∀ x, x∈m→x<1000000)→keyT l=keyT m→l=m
  | [], [], _, _, _=>rfl
  | [], _::_, _, _, h=>by simp [keyT] at h
  | _::_, [], _, _, h=>by simp [keyT] at h
  | a::l, b::m, hl, hm, h=>by
    have ha:=hl a (List.mem_cons_self ..)
    have hb:=hm b (List.mem_cons_self ..)
    simp only[keyT, List.cons_append, List.cons.injEq, true_and] at h
    obtain ⟨h1, h2⟩:=split_comma _ _ _ _ (itD_no a) (itD_no b) (keyT_head l) (keyT_head m) h
    rw[itD_inj' ha hb h1, keyT_inj l m (fun x hx=>hl x (List.mem_cons_of_mem _ hx)) (fun x hx=>hm x (List.mem_cons_of_mem _ hx)) h2]
theorem keyL_inj (l m:List Nat) (h1:l≠[]) (h2:m≠[]) (hl : ∀ x, x∈l→x<1000000) (hm : ∀ x, x∈m→x<1000000) (h:keyL l=keyL m):l=m:=by
  cases l with
  | nil=>exact (h1 rfl).elim
  | cons a l=>
    cases m with
    | nil=>exact (h2 rfl).elim
    | cons b m=>
      have ha:=hl a (List.mem_cons_self ..)
      have hb:=hm b (List.mem_cons_self ..)
      simp only[keyL] at h
      obtain ⟨h1, h2⟩:=split_comma _ _ _ _ (itD_no a) (itD_no b) (keyT_head l) (keyT_head m) h
      rw[itD_inj' ha hb h1, keyT_inj l m (fun x hx=>hl x (List.mem_cons_of_mem _ hx)) (fun x hx=>hm x (List.mem_cons_of_mem _ hx)) h2]
end Ago
/- Classes of states, plainly: they get finer until their number stays. -/
set_option maxRecDepth 100000
set_option maxHeartbeats 4000000
namespace Ago
section
variable {K:Type} [DecidableEq K]
theorem numGo_grow : ∀ (l seen:List K), ∃ t, (numGo seen l).2=seen++t∧t.length≤l.length
  | [], seen=>⟨[], by rw[numGo_nil, List.append_nil], Nat.le_refl _⟩
  | x::l, seen=>by
    by_cases h:x∈seen
    · obtain ⟨t, h1, h2⟩:=numGo_grow l seen
      rw[numGo_in l h]
      exact ⟨t, h1, by rw[List.length_cons]; omega⟩
    · obtain ⟨t, h1, h2⟩:=numGo_grow l (seen++[x])
      rw[numGo_new l h]
      exact ⟨x::t, by rw[h1]; simp, by rw[List.length_cons, List.length_cons]; omega⟩
/-- All that is met is kept, once. -/
theorem numGo_mem : ∀ (l seen:List K) (x:K), (x∈seen∨x∈l)→x∈(numGo seen l).2
  | [], seen, x, h=>by
    rw[numGo_nil]
    rcases h with h | h
    · exact h
    · cases h
  | y::l, seen, x, h=>by
    by_cases hy:y∈seen
    · rw[numGo_in l hy]
      refine numGo_mem l seen x ?_
      rcases h with h | h
      · exact .inl h
      · rcases List.mem_cons.1 h with rfl | h
        · exact .inl hy
        · exact .inr h
    · rw[numGo_new l hy]
      refine numGo_mem l (seen++[y]) x ?_
      rcases h with h | h
      · exact .inl (List.mem_append_left _ h)
      · rcases List.mem_cons.1 h with rfl | h
        · exact .inl (by simp)
        · exact .inr h
/-- Every new number is given. -/
theorem numGo_onto : ∀ (l seen:List K) (i:Nat), seen.length≤i→i<(numGo seen l).2.length→i∈(numGo seen l).1
  | [], seen, i, h1, h2=>by
    rw[numGo_nil] at h2
    simp only at h2
    omega
  | y::l, seen, i, h1, h2=>by
    by_cases hy:y∈seen
    · rw[numGo_in l hy] at h2 ⊢
      exact List.mem_cons_of_mem _ (numGo_onto l seen i h1 h2)
    · rw[numGo_new l hy] at h2 ⊢
      by_cases hi:i=seen.length
      · rw[hi]
        exact List.mem_cons_self ..
      · exact List.mem_cons_of_mem _ (numGo_onto l (seen++[y]) i (by simp; omega) h2)
/-- Every number is below that of what is kept. -/
theorem numGo_lt : ∀ (l seen:List K) (i:Nat), i∈(numGo seen l).1→i<(numGo seen l).2.length
  | [], seen, i, h=>by cases h
  | y::l, seen, i, h=>by
    by_cases hy:y∈seen
    · rw[numGo_in l hy] at h ⊢
      rcases List.mem_cons.1 h with rfl | h
      · obtain ⟨t, h1, _⟩:=numGo_grow l seen
        have:=List.idxOf_lt_length_of_mem hy
        simp only[h1, List.length_append]
        omega
      · exact numGo_lt l seen i h
    · rw[numGo_new l hy] at h ⊢
      rcases List.mem_cons.1 h with rfl | h
      · obtain ⟨t, h1, _⟩:=numGo_grow l (seen++[y])
        simp only[h1, List.length_append, List.length_cons, List.length_nil]
        omega
      · exact numGo_lt l (seen++[y]) i h
theorem nodup_le : ∀ {l m:List K}, l.Nodup→(∀ x, x∈l→x∈m)→l.length≤m.length
  | [], m, _, _=>Nat.zero_le _
  | x::l, m, hn, h=>by
    rw[List.nodup_cons] at hn
    have hx:=h x (List.mem_cons_self ..)
    have ih:=nodup_le (l:=l) (m:=m.erase x) hn.2 fun y hy=>by
      have hne:y≠x:=fun e=>hn.1 (e▸hy)
      exact (List.mem_erase_of_ne hne).2 (h y (List.mem_cons_of_mem _ hy))
    rw[List.length_erase_of_mem hx] at ih
    have:=List.length_pos_of_mem hx
    rw[List.length_cons]
    omega
end
/-- What a state is told by: its class, and those of what follows. -/
def kyOf (c:List Nat) (q:Nat) (l:List Nat):List Nat:=c.getD q 0::l.map fun t=>c.getD t 0
def kys (nx:List (List Nat)) (c:List Nat):List (List Nat):=nx.zipIdx.map fun x=>kyOf c x.2 x.1
def refC (nx:List (List Nat)) (c:List Nat):List Nat × Nat:=((numGo [] (kys nx c)).1, (numGo [] (kys nx c)).2.length)
theorem kys_len (nx:List (List Nat)) (c:List Nat):(kys nx c).length=nx.length:=by
  unfold kys
  simp
theorem refC_len (nx:List (List Nat)) (c:List Nat):(refC nx c).1.length=nx.length:=by
  unfold refC
  rw[numGo_len, kys_len]
theorem refC_le (nx:List (List Nat)) (c:List Nat):(refC nx c).2≤nx.length:=by
  obtain ⟨t, h1, h2⟩:=numGo_grow (kys nx c) []
  unfold refC
  rw[h1, List.nil_append]
  rw[kys_len] at h2
  exact h2
theorem refC_lt {nx:List (List Nat)} {c:List Nat} {i:Nat} (h:i∈(refC nx c).1):i<(refC nx c).2:=numGo_lt _ _ i h
theorem refC_pos {nx:List (List Nat)} (c:List Nat) (h:nx≠[]):0<(refC nx c).2:=by
  have hl:=refC_len nx c
  cases hc:(refC nx c).1 with
  | nil=>
    rw[hc] at hl
    exact absurd (List.length_eq_zero_iff.1 hl.symm) h
  | cons i l=>
    have:=refC_lt (nx:=nx) (c:=c) (i:=i) (by rw[hc]; exact List.mem_cons_self ..)
    omega
/-- Classes that all have a state do not get fewer. -/
theorem refC_mono {nx:List (List Nat)} {c:List Nat} {k:Nat} (hc:c.length=nx.length) (h : ∀ i, i<k→i∈c):k≤(refC nx c).2:=by
  have h1:=nodup_le (l:=List.range k) (m:=(numGo [] (kys nx c)).2.map fun l=>l.headD 0) List.nodup_range fun i hi=>by
    obtain ⟨q, hq, he⟩:=List.mem_iff_getElem.1 (h i (List.mem_range.1 hi))
    refine List.mem_map.2 ⟨kyOf c q nx[q], numGo_mem _ _ _ (.inr ?_), ?_⟩
    · unfold kys
      refine List.mem_map.2 ⟨(nx[q], q), ?_, rfl⟩
      rw[List.mem_zipIdx_iff_getElem?]
      simp [show q<nx.length by omega]
    · show c.getD q 0=i
      rw[List.getD_eq_getElem?_getD, List.getElem?_eq_getElem hq, Option.getD_some, he]
  simpa [refC] using h1
/-- Finer and finer, until the number of classes stays. -/
def clsGo (nx:List (List Nat)):Nat→Nat→List Nat→List Nat
  | 0, _, c=>c
  | f+1, k, c=>if (refC nx c).2=k then (refC nx c).1 else clsGo nx f (refC nx c).2 (refC nx c).1
theorem refC_onto (nx:List (List Nat)) (c:List Nat) : ∀ i, i<(refC nx c).2→i∈(refC nx c).1:=fun i h=>numGo_onto _ _ i (Nat.zero_le _) h
end Ago
/- The least automaton, plainly: the states of the classes in the order in which they are met. -/
set_option maxRecDepth 100000
set_option maxHeartbeats 4000000
namespace Ago
def clO (c:List Nat) (t:Nat):Nat:=c.getD t 0
/-- The numbers of targets by their classes; the states that stand for the classes. -/
def ordGo (c:List Nat):List Nat→List Nat→List Nat × List Nat
  | o, []=>([], o)
  | o, t::l=>if clO c t∈o.map (clO c) then ((o.map (clO c)).idxOf (clO c t)::(ordGo c o l).1, (ordGo c o l).2) else (o.length::(ordGo c (o++[t]) l).1, (ordGo c (o++[t]) l).2)
theorem ordGo_nil (c o:List Nat):ordGo c o []=([], o):=(rfl)
theorem ordGo_in {c o:List Nat} {t:Nat} (l:List Nat) (h:clO c t∈o.map (clO c)):ordGo c o (t::l)=((o.map (clO c)).idxOf (clO c t)::(ordGo c o l).1, (ordGo c o l).2):=by
  conv=>lhs; unfold ordGo
  rw[if_pos h]
theorem ordGo_new {c o:List Nat} {t:Nat} (l:List Nat) (h:clO c t∉o.map (clO c)):ordGo c o (t::l)=(o.length::(ordGo c (o++[t]) l).1, (ordGo c (o++[t]) l).2):=by
  conv=>lhs; unfold ordGo
  rw[if_neg h]
theorem ordGo_grow (c:List Nat) : ∀ (l o:List Nat), ∃ t, (ordGo c o l).2=o++t∧∀ x, x∈t→x∈l
  | [], o=>⟨[], by rw[ordGo_nil, List.append_nil], fun x h=>by cases h⟩
  | t::l, o=>by
    by_cases h:clO c t∈o.map (clO c)
    · obtain ⟨u, h1, h2⟩:=ordGo_grow c l o
      rw[ordGo_in l h]
      exact ⟨u, h1, fun x hx=>List.mem_cons_of_mem _ (h2 x hx)⟩
    · obtain ⟨u, h1, h2⟩:=ordGo_grow c l (o++[t])
      rw[ordGo_new l h]
      refine ⟨t::u, by rw[h1]; simp, fun x hx=>?_⟩
      rcases List.mem_cons.1 hx with rfl | hx
      · exact List.mem_cons_self ..
      · exact List.mem_cons_of_mem _ (h2 x hx)
/-- The states stand for different classes. -/
theorem ordGo_nodup (c:List Nat) : ∀ (l o:List Nat), (o.map (clO c)).Nodup→((ordGo c o l).2.map (clO c)).Nodup
  | [], o, h=>by
    rw[ordGo_nil]
    exact h
  | t::l, o, hn=>by
    by_cases h:clO c t∈o.map (clO c)
    · rw[ordGo_in l h]
      exact ordGo_nodup c l o hn
    · rw[ordGo_new l h]
      refine ordGo_nodup c l (o++[t]) ?_
      rw[List.map_append, List.map_cons, List.map_nil, List.nodup_append]
      refine ⟨hn, by simp, fun x hx y hy=>?_⟩
      rw[List.mem_singleton.1 hy]
      exact fun e=>h (e▸hx)
end Ago
