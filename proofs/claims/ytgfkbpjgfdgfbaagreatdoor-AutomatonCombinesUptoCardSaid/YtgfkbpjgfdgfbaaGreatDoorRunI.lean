/- Least automata: the bytes at which an arc begins, in the reference. -/
import Derived.Test.YtgfkbpjgfdgfbaaGreatDoorRunB
import Derived.Test.YtgfkbpjgfdgfbaaGreatDoorRunF
set_option linter.unusedSimpArgs false
set_option linter.unusedVariables false
set_option maxRecDepth 100000
set_option maxHeartbeats 4000000
namespace Ago
open Go (IntKind)
/-- The marks at the bytes of a list, and one more. -/
def mkE (l:List Int):List AV:=(List.range 257).map fun (b:Nat)=>.bool (decide ((b:Int)∈l))
theorem mkE_len (l:List Int):(mkE l).length=257:=by
  unfold mkE
  rw[List.length_map, List.length_range]
theorem mkE_get (l:List Int) {b:Nat} (h:b<257):(mkE l)[b]?=some (.bool (decide ((b:Int)∈l))):=by
  unfold mkE
  rw[List.getElem?_map, List.getElem?_range h]
  rfl
theorem mkE_set (l:List Int) {a:Int} (h0:0≤a) (h:a<257):(mkE l).set a.toNat (.bool true)=mkE (l++[a]):=by
  apply List.ext_getElem?
  intro i
  rw[List.getElem?_set, mkE_len]
  by_cases hi:i<257
  · rw[mkE_get _ hi, mkE_get _ hi]
    by_cases he:a.toNat=i
    · have e:(i:Int)=a:=by omega
      rw[if_pos he, if_pos (by omega), e]
      simp
    · have e : ¬ (i:Int)=a:=by omega
      rw[if_neg he]
      simp [e]
  · rw[if_neg (by omega), List.getElem?_eq_none (by rw[mkE_len]; omega), List.getElem?_eq_none (by rw[mkE_len]; omega)]
theorem mkE_nil:mkE []=List.replicate 257 (.bool false):=by
  unfold mkE
  simp only[List.not_mem_nil, decide_false]
  rfl
def suA (ms:List (List Sta)) (k:Nat):St:=
  { tmps:=slots 65 [(0, .tsl 1 (ms.map encMa)), (3, .ptr 1 0 0 0), (4, .int .i64 k)],
    heap:=[.row 1 (mkE (losL (ms.take k))) false true 0], base:=0 }
def suB (ms:List (List Sta)) (k:Nat) (m:List Sta) (i:Nat):St:=
  { tmps:=slots 65 [(0, .tsl 1 (ms.map encMa)), (3, .ptr 1 0 0 0), (4, .int .i64 k), (5, .int .i64 i)],
    heap:=[.row 1 (mkE (losL (ms.take k)++losS (m.take i))) false true 0], base:=0 }
def suC (ms:List (List Sta)) (k:Nat) (m:List Sta) (i:Nat) (l:List Arc) (j:Nat):St:=
  { tmps:=slots 65 [(0, .tsl 1 (ms.map encMa)), (3, .ptr 1 0 0 0), (4, .int .i64 k), (5, .int .i64 i), (6, .int .i64 j)],
    heap:=[.row 1 (mkE (losL (ms.take k)++losS (m.take i)++losA (l.take j))) false true 0], base:=0 }
def suD (los:List Int) (k:Nat):St:=
  { tmps:=slots 65 [(3, .ptr 1 0 0 0), (7, match stN los k with | []=>.snil 1 | b::l=>.sref 1 1 0 (l.length+1)), (8, .int .i64 k)],
    heap:=.row 1 (mkE los) false true 0::(match stN los k with | []=>[] | b::l=>[.row 1 ((b::l).map encN) false true 1]), base:=0 }
theorem cutsL_run (ms:List (List Sta)) (hms:ms.length<1000) (h : ∀ m, m∈ms→SmallM m) (hb : ∀ m, m∈ms→∀ s, s∈m→∀ a, a∈s.arcs→0≤a.lo∧a.lo<256):PRun CB 374 [.tsl 1 (ms.map encMa)] (encB (stN (losL ms) 256)):=by
  refine prun_of ac374 rfl ?_
  (repeat' first|simp (disch:=omega) only[go_sem, ac374, enter, List.length_map]|(apply spl<;>intro h<;>try simp (disch:=omega) only[go_sem, ac374, enter, List.length_map, h]))
  all_goals try omega
  refine loop_of (α:=Nat) (suA ms) (fun k=>k≤ms.length) (fun k=>ms.length-k) 0 (by unfold suA; rw[List.take_zero, show losL []=[] from rfl, mkE_nil]; rfl) (Nat.zero_le _) ?_
  intro k hk
  by_cases hk1:k<ms.length
  · obtain ⟨m, hmx⟩:=exAt hk1
    have hmx2:(ms.map encMa)[k]?=some (.agg [.tsl 2 (m.map encSta)]):=mget hmx
    obtain ⟨hm, hA⟩:=h m (List.mem_of_getElem? hmx)
    have hb:=hb m (List.mem_of_getElem? hmx)
    rw[suA]
    (repeat' first|simp (disch:=omega) only[go_sem, hmx2, List.length_map]|(apply spl<;>intro h<;>try simp (disch:=omega) only[go_sem, hmx2, List.length_map, h]))
    all_goals try omega
    refine loop_of (α:=Nat) (suB ms k m) (fun k=>k≤m.length) (fun k=>m.length-k) 0 (by unfold suB; rw[List.take_zero, show losS []=[] from rfl, List.append_nil]; rfl) (Nat.zero_le _) ?_
    intro i hi
    by_cases hlt:i<m.length
    · obtain ⟨x, hx⟩:=exAt hlt
      have hx2:(m.map encSta)[i]?=some (.agg [.bool x.acc, .tsl 3 (x.arcs.map encArc)]):=mget hx
      have hxa:=hA x (List.mem_of_getElem? hx)
      have hxb:=hb x (List.mem_of_getElem? hx)
      rw[suB]
      (repeat' first|simp (disch:=omega) only[go_sem, hmx2, hx2, List.length_map]|(apply spl<;>intro h<;>try simp (disch:=omega) only[go_sem, hmx2, hx2, List.length_map, h]))
      all_goals try omega
      refine loop_of (α:=Nat) (suC ms k m i x.arcs) (fun k=>k≤x.arcs.length) (fun k=>x.arcs.length-k) 0 (by unfold suC; rw[List.take_zero, show losA []=[] from rfl, List.append_nil]; rfl) (Nat.zero_le _) ?_
      intro j hj
      by_cases hjt:j<x.arcs.length
      · obtain ⟨a, ha⟩:=exAt hjt
        have ha2:(x.arcs.map encArc)[j]?=some (.agg [.int .i64 a.lo, .int .i64 a.hi, .int .i64 a.next]):=mget ha
        obtain ⟨h0, h1⟩:=hxb a (List.mem_of_getElem? ha)
        rw[suC]
        have hg:=mkE_get (losL (ms.take k)++losS (m.take i)++losA (x.arcs.take j)) (b:=a.lo.toNat) (by omega)
        have hs:=mkE_set (losL (ms.take k)++losS (m.take i)++losA (x.arcs.take j)) h0 (by omega)
        (repeat' first|simp (disch:=omega) only[go_sem, hmx2, hx2, ha2, List.length_map, mkE_len, hg, hs]|(apply spl<;>intro h<;>try simp (disch:=omega) only[go_sem, hmx2, hx2, ha2, List.length_map, mkE_len, hg, hs, h]))
        all_goals try omega
        refine ⟨j+1, ?_, by omega, by omega⟩
        rw[suC, losA_add ha, ← List.append_assoc]
        rfl
      · have hje:j=x.arcs.length:=by omega
        subst hje
        rw[suC]
        (repeat' first|simp (disch:=omega) only[go_sem, hmx2, hx2, List.length_map]|(apply spl<;>intro h<;>try simp (disch:=omega) only[go_sem, hmx2, hx2, List.length_map, h]))
        all_goals try omega
        refine ⟨i+1, ?_, by omega, by omega⟩
        rw[suB, losS_add hx, List.take_length, ← List.append_assoc]
        rfl
    · have hie:i=m.length:=by omega
      subst hie
      rw[suB]
      (repeat' first|simp (disch:=omega) only[go_sem, hmx2, List.length_map]|(apply spl<;>intro h<;>try simp (disch:=omega) only[go_sem, hmx2, List.length_map, h]))
      all_goals try omega
      refine ⟨k+1, ?_, by omega, by omega⟩
      rw[suA, losL_add hmx, List.take_length]
      rfl
  · have hke:k=ms.length:=by omega
    subst hke
    rw[suA, List.take_length]
    have hLn:=mkE_len (losL ms)
    have hLg : ∀ b, b<257→(mkE (losL ms))[b]?=some (.bool (decide ((b:Int)∈losL ms))):=fun b h=>mkE_get _ h
    (repeat' first|simp (disch:=omega) only[go_sem, hLn, List.length_map]|(apply spl<;>intro h<;>try simp (disch:=omega) only[go_sem, hLn, List.length_map, h]))
    all_goals try omega
    refine loop_of (α:=Nat) (suD (losL ms)) (fun k=>k≤256) (fun k=>256-k) 0 (by unfold suD; rfl) (Nat.zero_le _) ?_
    intro k hk
    by_cases hkt:k<256
    · have hg:=hLg k (by omega)
      by_cases hin:(k:Int)∈losL ms
      · rw[decide_eq_true hin] at hg
        cases hs:stN (losL ms) k with
        | nil=>
          rw[suD, hs]
          (repeat' first|simp (disch:=omega) only[go_sem, hLn, hg, Nat.mul_one]|(apply spl<;>intro h<;>try simp (disch:=omega) only[go_sem, hLn, hg, Nat.mul_one, h]))
          all_goals try omega
          refine ⟨k+1, ?_, by omega, by omega⟩
          rw[suD, stN_yes hin, hs]
          rfl
        | cons b bs=>
          have hbl:=stN_le (losL ms) k
          rw[hs, List.length_cons] at hbl
          rw[suD, hs]
          (repeat' first|simp (disch:=omega) only[go_sem, hLn, hg, Nat.mul_one, List.length_cons, List.length_map]|(apply spl<;>intro h<;>try simp (disch:=omega) only[go_sem, hLn, hg, Nat.mul_one, List.length_cons, List.length_map, h]))
          all_goals try omega
          refine ⟨k+1, ?_, by omega, by omega⟩
          rw[suD, stN_yes hin, hs, List.cons_append]
          simp only[List.map_cons, List.map_append, List.map_nil, List.length_append, List.length_cons, List.length_nil]
          rfl
      · rw[decide_eq_false hin] at hg
        cases hs:stN (losL ms) k with
        | nil=>
          rw[suD, hs]
          (repeat' first|simp (disch:=omega) only[go_sem, hLn, hg, Nat.mul_one]|(apply spl<;>intro h<;>try simp (disch:=omega) only[go_sem, hLn, hg, Nat.mul_one, h]))
          all_goals try omega
          refine ⟨k+1, ?_, by omega, by omega⟩
          rw[suD, stN_no hin, hs]
          rfl
        | cons b bs=>
          rw[suD, hs]
          (repeat' first|simp (disch:=omega) only[go_sem, hLn, hg, Nat.mul_one]|(apply spl<;>intro h<;>try simp (disch:=omega) only[go_sem, hLn, hg, Nat.mul_one, h]))
          all_goals try omega
          refine ⟨k+1, ?_, by omega, by omega⟩
          rw[suD, stN_no hin, hs]
          rfl
    · have hke:k=256:=by omega
      subst hke
      unfold encB
      cases hs:stN (losL ms) 256 with
      | nil=>
        rw[suD, hs]
        (repeat' first|simp (disch:=omega) only[go_sem]|(apply spl<;>intro h<;>try simp (disch:=omega) only[go_sem, h]))
        all_goals first | omega | rfl
      | cons b bs=>
        have e1 : ∀ H n, omap (frz H (n+1)) (bs.map encN)=some (bs.map encN):=fun H n=>frz_encN H n bs
        have e2:(bs.map encN).take bs.length=bs.map encN:=List.take_of_length_le (by rw[List.length_map]; exact Nat.le_refl _)
        have e3 : ∀ H n, frz H (n+1) (encN b)=some (encN b):=fun H n=>rfl
        rw[suD, hs]
        (repeat' first|simp (disch:=omega) only[go_sem, List.length_map, e2, e1 _ 4, e3 _ 4, List.map_cons]|(apply spl<;>intro h<;>try simp (disch:=omega) only[go_sem, List.length_map, e2, e1 _ 4, e3 _ 4, List.map_cons, h]))
        all_goals first | omega | rfl
theorem cuts_run (m:List Sta) (h:SmallM m) (hb : ∀ s, s∈m→∀ a, a∈s.arcs→0≤a.lo∧a.lo<256):PRun CB 374 [.tsl 1 [encMa m]] (encB (stN (losS m) 256)):=by
  have:=cutsL_run [m] (by rw[List.length_singleton]; omega) (fun x hx=>by rw[List.mem_singleton.1 hx]; exact h) (fun x hx=>by rw[List.mem_singleton.1 hx]; exact hb)
  rw[losL_one] at this
  exact this
end Ago
/- Least automata: the reference's classes. -/
set_option maxRecDepth 100000
set_option maxHeartbeats 16000000
namespace Ago
open Go (IntKind)
/-- The reference's row of what follows, one more. -/
def r10X (m:List Sta) (c:List Nat) (q:Nat) (x:Sta) (k:Nat):List Nat:=c.getD q 0::((byM m).take k).map fun b=>clO c (nextGo (b:Nat) x.arcs).toNat
def r10S (seen:List (List Nat)):Heap:=match seen with
  | []=>[]
  | s::l=>[.row 1 ((s::l).map encB) false true 2]
def r10V (seen:List (List Nat)):AV:=match seen with
  | []=>.snil 1
  | s::l=>.sref 1 2 0 (l.length+1)
/-- The innermost loop: x grows. -/
def r10K (m:List Sta) (c:List Nat) (kn q:Nat) (x:Sta) (seen:List (List Nat)) (F:List Nat) (k:Nat):St:=
  { tmps:=slots 91 [(1, .ptr 1 0 0 0), (3, .tsl 1 ((byM m).map encN)), (4, .sref 1 1 0 m.length), (6, .int .i64 kn), (7, r10V seen), (8, .sref 1 (match seen with | []=>2 | _::_=>3) 0 m.length), (9, .int .i64 q), (10, .sref 1 (match seen with | []=>3 | _::_=>4) 0 (k+1)), (11, .int .i64 k)],
    heap:=[.row 1 [.agg [.tsl 2 (m.map encSta)]] false true 0, .row 1 (c.map encN) false true 1]++(r10S seen++(match seen with
      | []=>[.row 1 (F.map encN) false true 2, .row 1 ((r10X m c q x k).map encN) false true 3]
      | _::_=>[.row 1 (F.map encN) false true 3, .row 1 ((r10X m c q x k).map encN) false true 4])), base:=0 }
theorem classes_key {Q:Ex→St→Prop} (m:List Sta) (h:SmallM m) (hv:validM m=true) (c:List Nat) (hcl:c.length=m.length) (kn q:Nat) (x:Sta) (hx:m[q]?=some x) (seen:List (List Nat)) (F:List Nat) (k:Nat) (hk:k<(byM m).length) :
    aw (RunOf CB) (PRun CB) (ac373.lp 3) (awThen (fun t=>∃ a', t.norm [1, 3, 4, 6, 7, 8, 9, 10, 11]=r10K m c kn q x seen F a'∧a'≤(byM m).length∧(byM m).length-a'<(byM m).length-k) Q) (r10K m c kn q x seen F k):=by
  simp only[AFn.lp, ac373, ACode.loopsOf, List.cons_append, List.append_nil, List.nil_append, List.getD_cons_succ, List.getD_cons_zero]
  obtain ⟨b, hb⟩:=exAt hk
  have hb2:((byM m).map encN)[k]?=some (.int .i64 b):=mget hb
  have hst:=next_run m h q x hx b
  obtain ⟨h0, h1⟩:=next_lt hv (List.mem_of_getElem? hx) (byM_lt b (List.mem_of_getElem? hb))
  obtain ⟨t, ht⟩ : ∃ t:Nat, nextGo (b:Int) x.arcs=t:=⟨(nextGo (b:Int) x.arcs).toNat, by omega⟩
  rw[ht] at hst h1
  obtain ⟨d, hd⟩:=exAt (show t<c.length by omega)
  have hd2:(c.map encN)[t]?=some (.int .i64 d):=mget hd
  have hd3:clO c t=d:=by unfold clO; rw[List.getD_eq_getElem?_getD, hd]; rfl
  have hX:(r10X m c q x (k+1)).map encN=(r10X m c q x k).map encN++[.int .i64 (d:Int)]:=by
    unfold r10X
    rw[List.take_add_one, hb]
    simp only[Option.toList_some, List.map_append, List.map_cons, List.map_nil, ht, Int.toNat_natCast, hd3, List.cons_append]
    rfl
  have hXl:((r10X m c q x k).map encN).length=k+1:=by
    unfold r10X
    rw[List.length_map, List.length_cons, List.length_map, List.length_take]
    omega
  obtain ⟨X, hXe⟩ : ∃ X, (r10X m c q x k).map encN=X:=⟨_, rfl⟩
  rw[hXe] at hX hXl
  have hbl:=byM_len m
  have hml:=h.1
  unfold encMa at hst
  cases seen with
  | nil=>
    rw[r10K, r10S, r10V, hXe]
    (repeat' first|simp (disch:=omega) only[go_sem, List.length_map, hb2, hd2, hcl, hXl]|refine pure_of _ (hst) ?_|(apply spl<;>intro h<;>try simp (disch:=omega) only[go_sem, List.length_map, hb2, hd2, hcl, hXl , h]))
    all_goals try omega
    refine ⟨k+1, ?_, by omega, by omega⟩
    rw[r10K, r10S, r10V, hX]
    exact norm_by0 [[], [], [], [], [], []] [0, 1, 2, 5] rfl rfl rfl rfl rfl rfl
  | cons s l=>
    rw[r10K, r10S, r10V, hXe]
    (repeat' first|simp (disch:=omega) only[go_sem, List.length_map, hb2, hd2, hcl, hXl]|refine pure_of _ (hst) ?_|(apply spl<;>intro h<;>try simp (disch:=omega) only[go_sem, List.length_map, hb2, hd2, hcl, hXl , h]))
    all_goals try omega
    refine ⟨k+1, ?_, by omega, by omega⟩
    rw[r10K, r10S, r10V, hX]
    exact norm_by0 [[], [], [], [], [], [], []] [0, 1, 2, 3, 6] rfl rfl rfl rfl rfl rfl
end Ago
/- Least automata: the reference's classes, a round of the loop over states. -/
set_option maxRecDepth 100000
set_option maxHeartbeats 16000000
namespace Ago
open Go (IntKind)
theorem idx_same {α:Type} [DecidableEq α] (i1:BEq α) (h1 : @LawfulBEq α i1) (x:α) : ∀ l:List α, @List.idxOf α i1 x l = @List.idxOf α instBEqOfDecidableEq x l
  | []=>rfl
  | y::l=>by
    have ih:=idx_same i1 h1 x l
    by_cases h:x=y
    · subst h
      simp
    · rw[idx_cons x y l h, ← ih]
      have e:(@BEq.beq α i1 y x)=false:=by simpa using fun e:y=x=>h e.symm
      simp [List.idxOf_cons, e]
theorem fndN_eq (l:List (List Nat)) (x:List Nat):fndN l x=if x∈l then ((@List.idxOf _ instBEqOfDecidableEq x l:Nat):Int) else -1:=by
  unfold fndN
  by_cases h:x∈l
  · rw[if_pos h, if_pos h, idx_same _ inferInstance]
  · rw[if_neg h, if_neg h]
theorem numGo_sub {K:Type} [DecidableEq K] : ∀ (l seen:List K) (y:K), y∈(numGo seen l).2→y∈seen∨y∈l
  | [], seen, y, h=>.inl (by rw[numGo_nil] at h; exact h)
  | x::l, seen, y, h=>by
    by_cases hx:x∈seen
    · rw[numGo_in l hx] at h
      rcases numGo_sub l seen y h with h | h
      · exact .inl h
      · exact .inr (List.mem_cons_of_mem _ h)
    · rw[numGo_new l hx] at h
      rcases numGo_sub l (seen++[x]) y h with h | h
      · rcases List.mem_append.1 h with h | h
        · exact .inl h
        · rw[List.mem_singleton.1 h]
          exact .inr (List.mem_cons_self ..)
      · exact .inr (List.mem_cons_of_mem _ h)
theorem nwR_thaw0 {H:Heap} {A:List (List Nat)} {r l:Nat} {L:List Nat} {ro:Bool} {fam:Nat} (h:H[r]?=some (.row 1 (L.map encN) ro true fam)) (hl:l=L.length) :
    (nwR A (.sref 1 r 0 l) 0).flatMap (fun x=>x.cells.flatMap (thawRefsC H))=[r]∧(nwR A (.sref 1 r 0 l) 0).map (thawE H)=(A++[L]).map encB:=by
  obtain ⟨h1, h2⟩:=nwR_thaw (A:=A) 0 h hl
  refine ⟨h1, h2.trans ?_⟩
  unfold nwH
  exact List.append_nil _
theorem encB_all (A:List (List Nat)):((A.map encB).all fun x=>x.isPure && x.aged)=true:=List.all_eq_true.2 fun x hx=>by
  obtain ⟨a, _, rfl⟩:=List.mem_map.1 hx
  rfl
theorem r10V_snoc (l:List (List Nat)) (x:List Nat):r10V (l++[x]) = .sref 1 2 0 (l.length+1):=by
  obtain ⟨b, t, hb⟩:=exCons l x
  have:=congrArg List.length hb
  rw[List.length_append, List.length_cons, List.length_cons, List.length_nil] at this
  rw[hb, r10V, show l.length=t.length by omega]
def r10Q (m:List Sta) (c:List Nat) (kn:Nat) (q:Nat):St:=
  { tmps:=slots 91 [(1, .ptr 1 0 0 0), (3, .tsl 1 ((byM m).map encN)), (4, .sref 1 1 0 m.length), (6, .int .i64 kn), (7, r10V (numGo [] ((kys (nxM m) c).take q)).2), (8, .sref 1 (match (numGo [] ((kys (nxM m) c).take q)).2 with | []=>2 | _::_=>3) 0 m.length), (9, .int .i64 q)],
    heap:=[.row 1 [.agg [.tsl 2 (m.map encSta)]] false true 0, .row 1 (c.map encN) false true 1]++(r10S (numGo [] ((kys (nxM m) c).take q)).2++(match (numGo [] ((kys (nxM m) c).take q)).2 with
      | []=>[.row 1 (((numGo [] ((kys (nxM m) c).take q)).1++List.replicate (m.length-q) 0).map encN) false true 2]
      | _::_=>[.row 1 (((numGo [] ((kys (nxM m) c).take q)).1++List.replicate (m.length-q) 0).map encN) false true 3])), base:=0 }
theorem classes_q {Q:Ex→St→Prop} (m:List Sta) (h:SmallM m) (hv:validM m=true) (c:List Nat) (hcl:c.length=m.length) (kn q:Nat) (hq:q<m.length) :
    aw (RunOf CB) (PRun CB) (ac373.lp 2) (awThen (fun t=>∃ a', t.head [1, 3, 4, 6, 7, 8, 9, 2007]=r10Q m c kn a'∧a'≤m.length∧m.length-a'<m.length-q) Q) (r10Q m c kn q):=by
  have hin:=fun (Q:Ex→St→Prop) (x:Sta) (hx:m[q]?=some x) (seen:List (List Nat)) (F:List Nat) (k:Nat) (hk:k<(byM m).length)=>classes_key (Q:=Q) m h hv c hcl kn q x hx seen F k hk
  simp only[AFn.lp, ac373, ACode.loopsOf, List.cons_append, List.append_nil, List.nil_append, List.getD_cons_succ, List.getD_cons_zero] at hin ⊢
  obtain ⟨x, hx⟩:=exAt hq
  have hml:=h.1
  obtain ⟨d, hd⟩:=exAt (show q<c.length by omega)
  have hd2:(c.map encN)[q]?=some (.int .i64 d):=mget hd
  have hd3:c.getD q 0=d:=by rw[List.getD_eq_getElem?_getD, hd]; rfl
  have hbl:=byM_len m
  have hX0:(r10X m c q x 0).map encN=[.int .i64 (d:Int)]:=by
    unfold r10X
    rw[hd3]
    rfl
  obtain ⟨X, hXe⟩ : ∃ X, r10X m c q x (byM m).length=X:=⟨_, rfl⟩
  have hXk:kyOf c q ((byM m).map fun b=>(nextGo (b:Nat) x.arcs).toNat)=X:=by
    rw[←hXe]
    unfold kyOf r10X
    rw[List.take_length, List.map_map]
    rfl
  have hXl:X.length=(byM m).length+1:=by
    rw[←hXe]
    unfold r10X
    rw[List.length_cons, List.length_map, List.length_take, Nat.min_self]
  have hK1:=kys_take (c:=c) (nxM_at hx)
  rw[hXk] at hK1
  have hG:=numGo_snoc X ((kys (nxM m) c).take q) []
  rw[←hK1] at hG
  obtain ⟨⟨ns, seen⟩, hr⟩ : ∃ r, numGo [] ((kys (nxM m) c).take q)=r:=⟨_, rfl⟩
  have hky:(kys (nxM m) c).length=m.length:=by rw[kys_len, nxM_len]
  have hnsl:ns.length=q:=by
    have:=numGo_len ((kys (nxM m) c).take q) []
    rw[hr, List.length_take] at this
    dsimp only at this
    omega
  have hsl:seen.length≤q:=by
    obtain ⟨t, h1, h2⟩:=numGo_grow ((kys (nxM m) c).take q) []
    rw[hr, List.length_take] at *
    dsimp only at h1
    rw[h1, List.nil_append]
    omega
  have hsm : ∀ y, y∈seen→y.length<2^30:=by
    intro y hy
    have hy2:y∈(numGo [] ((kys (nxM m) c).take q)).2:=by rw[hr]; exact hy
    rcases numGo_sub _ _ _ hy2 with h0 | h0
    · cases h0
    · have h0:=List.mem_of_mem_take h0
      unfold kys at h0
      obtain ⟨z, hz, rfl⟩:=List.mem_map.1 h0
      unfold kyOf
      rw[List.length_cons, List.length_map]
      have hz1:z.1∈nxM m:=by
        have:=List.mem_zipIdx_iff_getElem?.1 hz
        exact List.mem_of_getElem? this
      have:=(nxM_ok hv z.1 hz1).1
      omega
  rw[hr] at hG
  dsimp only at hG
  have hfind:=find_run seen X (by omega) hsm (by omega)
  rw[fndN_eq] at hfind
  obtain ⟨n, hn⟩ : ∃ n, m.length-q=n+1:=⟨m.length-q-1, by omega⟩
  have hF : ∀ v:Nat, ((ns++List.replicate (n+1) 0).map encN).set q (.int .i64 v)=((ns++[v])++List.replicate n 0).map encN:=fun v=>by
    rw[List.map_append, List.set_append_right _ _ (by rw[List.length_map]; omega), List.length_map, hnsl, Nat.sub_self, List.replicate_succ]
    simp [encN]
  have hFl:((ns++List.replicate (n+1) 0).map encN).length=m.length:=by
    rw[List.length_map, List.length_append, List.length_replicate]
    omega
  have hFg:((ns++List.replicate (n+1) 0).map encN)[q]?=some (.int .i64 0):=by
    rw[List.map_append, List.getElem?_append_right (by rw[List.length_map]; omega), List.length_map, hnsl, Nat.sub_self, List.replicate_succ]
    rfl
  obtain ⟨F, hFe⟩ : ∃ F, ns++List.replicate (n+1) 0=F:=⟨_, rfl⟩
  rw[hFe] at hF hFl hFg
  have hF0:(F.map encN).set q (.int .i64 0)=((ns++[0])++List.replicate n 0).map encN:=hF 0
  have hXm:(X.map encN).length=(byM m).length+1:=by rw[List.length_map, hXl]
  have hXt:(X.map encN).take ((byM m).length+1)=X.map encN:=List.take_of_length_le (by omega)
  rw[r10Q, hr, hn]
  dsimp only
  rw[hFe]
  cases seen with
  | nil=>
    rw[r10S, r10V]
    (repeat' first|simp (disch:=omega) only[go_sem, List.length_map, hd2, hcl]|(apply spl<;>intro h<;>try simp (disch:=omega) only[go_sem, List.length_map, hd2, hcl, h]))
    all_goals try omega
    refine loop_of (α:=Nat) (r10K m c kn q x [] F) (fun k=>k≤(byM m).length) (fun k=>(byM m).length-k) 0 (by
      rw[r10K, r10S, r10V, hX0]
      exact norm_by0 [[], [], [], []] [0, 1, 2, 3] rfl rfl rfl rfl rfl rfl) (Nat.zero_le _) ?_
    intro k hk
    by_cases hkt:k<(byM m).length
    · exact hin _ x hx [] F k hkt
    · have hke:k=(byM m).length:=by omega
      subst hke
      rw[if_neg (List.not_mem_nil)] at hfind hG
      rw[r10K, r10S, r10V, hXe]
      (repeat' first|simp (disch:=omega) only[go_sem, List.length_map, hF, hF0, hFl, hFg, hXm, hXt]|refine pure_of _ (hfind) ?_|(apply spl<;>intro h<;>try simp (disch:=omega) only[go_sem, List.length_map, hF, hF0, hFl, hFg, hXm, hXt , h]))
      all_goals try omega
      refine ⟨q+1, ?_, by omega, by omega⟩
      refine (head_thaw (r:=5) rfl rfl (thaw_row1 (ks:=[3]) rfl ⟨_, rfl⟩ (nwR_thaw0 (A:=[]) (L:=X) (l:=(byM m).length+1) rfl (by omega)).1 (nwR_thaw0 (A:=[]) (L:=X) (l:=(byM m).length+1) rfl (by omega)).2 (encB_all _))).trans ?_
      rw[r10Q, hG, show m.length-(q+1)=n by omega]
      dsimp only
      rw[r10V_snoc]
      exact norm_by (R:=[[], [], [], [], [3], []]) (ks:=[0, 1, 5, 2]) (dr:=[(3, (X.map encN).length)]) rfl rfl rfl rfl rfl rfl rfl
  | cons s l=>
    rw[r10S, r10V]
    (repeat' first|simp (disch:=omega) only[go_sem, List.length_map, hd2, hcl]|(apply spl<;>intro h<;>try simp (disch:=omega) only[go_sem, List.length_map, hd2, hcl, h]))
    all_goals try omega
    refine loop_of (α:=Nat) (r10K m c kn q x (s::l) F) (fun k=>k≤(byM m).length) (fun k=>(byM m).length-k) 0 (by
      rw[r10K, r10S, r10V, hX0]
      exact norm_by0 [[], [], [], [], []] [0, 1, 2, 3, 4] rfl rfl rfl rfl rfl rfl) (Nat.zero_le _) ?_
    intro k hk
    by_cases hkt:k<(byM m).length
    · exact hin _ x hx (s::l) F k hkt
    · have hke:k=(byM m).length:=by omega
      subst hke
      have hll:l.length+1≤q:=hsl
      have hlt:(l.map encB).take l.length=l.map encB:=List.take_of_length_le (by rw[List.length_map]; exact Nat.le_refl _)
      by_cases hmem:X∈s::l
      · rw[if_pos hmem] at hfind hG
        obtain ⟨j, hj⟩ : ∃ j, @List.idxOf _ instBEqOfDecidableEq X (s::l)=j:=⟨_, rfl⟩
        rw[hj] at hfind hG
        rw[r10K, r10S, r10V, hXe]
        (repeat' first|simp (disch:=omega) only[go_sem, List.length_map, List.map_cons, List.length_cons, hF, hFl, hFg, hXm, hXt, hlt]|refine pure_of _ (hfind) ?_|(apply spl<;>intro h<;>try simp (disch:=omega) only[go_sem, List.length_map, List.map_cons, List.length_cons, hF, hFl, hFg, hXm, hXt, hlt , h]))
        all_goals try omega
        refine ⟨q+1, ?_, by omega, by omega⟩
        refine (head_thaw (r:=2) rfl rfl (thaw_flat rfl)).trans ?_
        rw[r10Q, hG, show m.length-(q+1)=n by omega]
        exact norm_by0 [[], [], [], [], []] [0, 1, 2, 3] rfl rfl rfl rfl rfl rfl
      · rw[if_neg hmem] at hfind hG
        rw[r10K, r10S, r10V, hXe]
        (repeat' first|simp (disch:=omega) only[go_sem, List.length_map, List.map_cons, List.length_cons, hF, hFl, hFg, hXm, hXt, hlt]|refine pure_of _ (hfind) ?_|(apply spl<;>intro h<;>try simp (disch:=omega) only[go_sem, List.length_map, List.map_cons, List.length_cons, hF, hFl, hFg, hXm, hXt, hlt , h]))
        all_goals try omega
        refine ⟨q+1, ?_, by omega, by omega⟩
        refine (head_thaw (r:=6) rfl rfl (thaw_row1 (ks:=[4]) rfl ⟨_, rfl⟩ (nwR_thaw0 (A:=s::l) (L:=X) (l:=(byM m).length+1) rfl (by omega)).1 (nwR_thaw0 (A:=s::l) (L:=X) (l:=(byM m).length+1) rfl (by omega)).2 (encB_all _))).trans ?_
        rw[r10Q, hG, show m.length-(q+1)=n by omega]
        dsimp only
        rw[r10V_snoc]
        refine norm_by (R:=[[], [], [], [], [], [4], []]) (ks:=[0, 1, 6, 3]) (dr:=[(4, (X.map encN).length)]) rfl rfl rfl rfl rfl rfl ?_
        rfl
end Ago
/- Least automata: the reference's classes. -/
set_option maxRecDepth 100000
set_option maxHeartbeats 16000000
namespace Ago
open Go (IntKind)
theorem c0R_zero' (m:List Sta):c0R m 0=List.replicate m.length (.int .i64 0):=by
  unfold c0R
  rw[List.take_zero, List.nil_append, List.map_replicate]
  rfl
theorem c0R_full' (m:List Sta):c0R m m.length=(c0M m).map encN:=by
  unfold c0R
  rw[Nat.sub_self, List.take_of_length_le (by rw[c0M_len]; exact Nat.le_refl _)]
  simp
def r10A (m:List Sta) (q:Nat):St:=
  { tmps:=slots 91 [(1, .ptr 1 0 0 0), (3, .tsl 1 ((byM m).map encN)), (4, .sref 1 1 0 m.length), (5, .int .i64 q)],
    heap:=[.row 1 [.agg [.tsl 2 (m.map encSta)]] false true 0, .row 1 (c0R m q) false true 1], base:=0 }
def r10O (m:List Sta) (a:Nat × List Nat):St:=
  { tmps:=slots 91 [(1, .ptr 1 0 0 0), (3, .tsl 1 ((byM m).map encN)), (4, .sref 1 1 0 m.length), (6, .int .i64 a.1)],
    heap:=[.row 1 [.agg [.tsl 2 (m.map encSta)]] false true 0, .row 1 (a.2.map encN) false true 1], base:=0 }
theorem classes_run (m:List Sta) (h:SmallM m) (hv:validM m=true) (hlo : ∀ s, s∈m→∀ a, a∈s.arcs→0≤a.lo∧a.lo<256):PRun CB 373 [encMa m] (encB (clsM m)):=by
  have hl0:=valid_len hv
  have hne0 : ¬ (m.length:Int)=0:=by omega
  have hnl:=nxM_len m
  have hml:=h.1
  have hct:=cuts_run m h hlo
  have hq:=fun (Q:Ex→St→Prop) (c:List Nat) (hcl:c.length=m.length) (kn q:Nat) (hq:q<m.length)=>classes_q (Q:=Q) m h hv c hcl kn q hq
  simp only[AFn.lp, ac373, ACode.loopsOf, List.cons_append, List.append_nil, List.nil_append, List.getD_cons_succ, List.getD_cons_zero] at hq
  have hI:=ClsI.init m
  obtain ⟨R, hR⟩ : ∃ R, clsM m=R:=⟨_, rfl⟩
  rw[hR] at hI ⊢
  refine prun_of ac373 rfl ?_
  rw[show encB (stN (losS m) 256) = .tsl 1 ((byM m).map encN) from rfl] at hct
  unfold encB
  unfold encMa at hct ⊢
  (repeat' first|simp (disch:=omega) only[go_sem, ac373, enter, List.length_map, hne0, markFrom, Blk.mark, List.contains_cons, List.contains_nil, Bool.or_false, Bool.or_true]|refine pure_of _ (hct) ?_|(apply spl<;>intro h<;>try simp (disch:=omega) only[go_sem, ac373, enter, List.length_map, hne0, markFrom, Blk.mark, List.contains_cons, List.contains_nil, Bool.or_false, Bool.or_true , h]))
  all_goals try omega
  refine loop_of (α:=Nat) (r10A m) (fun k=>k≤m.length) (fun k=>m.length-k) 0 (by rw[r10A, c0R_zero']; rfl) (Nat.zero_le _) ?_
  intro q hqm
  by_cases hqt:q<m.length
  · obtain ⟨x, hx⟩:=exAt hqt
    have hx2:(m.map encSta)[q]?=some (.agg [.bool x.acc, .tsl 3 (x.arcs.map encArc)]):=mget hx
    obtain ⟨c1, c2, c3, c4⟩:=c0R_step hx
    rw[r10A]
    obtain ⟨C, hC⟩ : ∃ C, c0R m q=C:=⟨_, rfl⟩
    rw[hC] at c1 c2 c3 c4 ⊢
    cases hac:x.acc with
    | true=>
      rw[hac] at c1 hx2
      have c1:=c1 rfl
      (repeat' first|simp (disch:=omega) only[go_sem, List.length_map, hx2, c1, c3, c4]|(apply spl<;>intro h<;>try simp (disch:=omega) only[go_sem, List.length_map, hx2, c1, c3, c4, h]))
      all_goals try omega
      exact ⟨q+1, rfl, by omega, by omega⟩
    | false=>
      rw[hac] at c2 hx2
      have c2:=c2 rfl
      (repeat' first|simp (disch:=omega) only[go_sem, List.length_map, hx2, c3]|(apply spl<;>intro h<;>try simp (disch:=omega) only[go_sem, List.length_map, hx2, c3, h]))
      all_goals try omega
      refine ⟨q+1, ?_, by omega, by omega⟩
      rw[r10A, ← c2]
      rfl
  have hqe:q=m.length:=by omega
  subst hqe
  rw[r10A, c0R_full']
  have hc0:=c0M_len m
  (repeat' first|simp (disch:=omega) only[go_sem, List.length_map]|(apply spl<;>intro h<;>try simp (disch:=omega) only[go_sem, List.length_map, h]))
  all_goals try omega
  refine loop_of (α:=Nat × List Nat) (r10O m) (fun a=>ClsI (nxM m) R a.1 a.2) (fun a=>m.length+1-a.1) (0, c0M m) rfl hI ?_
  rintro ⟨kn, c⟩ hI
  dsimp only at hI
  have hcl:c.length=m.length:=by rw[hI.len, hnl]
  have hkl:=hI.le
  rw[r10O]
  (repeat' first|simp (disch:=omega) only[go_sem, List.length_map, hcl, hne0]|(apply spl<;>intro h<;>try simp (disch:=omega) only[go_sem, List.length_map, hcl, hne0, h]))
  all_goals try omega
  refine loop_hd (α:=Nat) (r10Q m c kn) (fun q=>q≤m.length) (fun q=>m.length-q) 0 (by
    have hF:(([]++List.replicate (m.length-0) 0).map encN:List AV)=List.replicate m.length (.int .i64 0):=by
      rw[List.nil_append, List.map_replicate]
      rfl
    rw[r10Q, List.take_zero, numGo_nil]
    dsimp only
    rw[hF, r10S, r10V]
    rfl) (Nat.zero_le _) ?_
  intro q hqm
  by_cases hqt:q<m.length
  · exact hq _ c hcl kn q hqt
  have hqe:q=m.length:=by omega
  subst hqe
  have hkt:(kys (nxM m) c).take m.length=kys (nxM m) c:=List.take_of_length_le (by rw[kys_len, hnl]; exact Nat.le_refl _)
  obtain ⟨⟨c', seen⟩, hr⟩ : ∃ r, numGo [] (kys (nxM m) c)=r:=⟨_, rfl⟩
  have hrc:refC (nxM m) c=(c', seen.length):=by unfold refC; rw[hr]
  have hcl':c'.length=m.length:=by
    have:=refC_len (nxM m) c
    rw[hrc] at this
    rw[←hnl]
    exact this
  have hsl:seen.length≤m.length:=by
    have:=refC_le (nxM m) c
    rw[hrc] at this
    rw[←hnl]
    exact this
  have hsp:0<seen.length:=by
    have:=refC_pos (nx:=nxM m) c (fun e=>by rw[e] at hnl; simp at hnl; omega)
    rw[hrc] at this
    exact this
  rw[r10Q, hkt, hr, Nat.sub_self]
  dsimp only
  rw[show c'++List.replicate 0 0=c' from List.append_nil _]
  cases hs:seen with
  | nil=>
    rw[hs] at hsp
    exact absurd hsp (Nat.lt_irrefl 0)
  | cons s l=>
    rw[hs, List.length_cons] at hrc
    rw[hs, List.length_cons] at hsl
    rw[r10S, r10V]
    by_cases hke:l.length+1=kn
    · have hRc:=hI.done (by rw[hrc]; exact hke)
      rw[hrc] at hRc
      dsimp only at hRc
      subst hRc
      subst hke
      have hT2:(R.map encN).take m.length=R.map encN:=List.take_of_length_le (by rw[List.length_map]; omega)
      (repeat' first|simp (disch:=omega) only[go_sem, List.length_map, hT2, hcl']|(apply spl<;>intro h<;>try simp (disch:=omega) only[go_sem, List.length_map, hT2, hcl', h]))
      all_goals first | omega | rfl
    · obtain ⟨hI2, hlt⟩:=hI.step (by rw[hrc]; exact hke)
      rw[hrc] at hI2 hlt
      dsimp only at hI2 hlt
      have hne : ¬ ((l.length+1:Nat):Int)=kn:=by omega
      (repeat' first|simp (disch:=omega) only[go_sem, List.length_map, hne]|(apply spl<;>intro h<;>try simp (disch:=omega) only[go_sem, List.length_map, hne, h]))
      all_goals try omega
      exact ⟨(l.length+1, c'), rfl, hI2, by dsimp only; omega⟩
end Ago
