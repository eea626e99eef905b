/- Least automata: the reference's least. -/
import Derived.Test.YtgfkbpjgfdgfbaaGreatDoorRunJ
import Derived.Test.YtgfkbpjgfdgfbaaGreatDoorRunA
set_option linter.unusedSimpArgs false
set_option linter.unusedVariables false
set_option maxRecDepth 100000
set_option maxHeartbeats 16000000
namespace Ago
open Go (IntKind)
def r11S (m:List Sta) (c:List Nat) (a:Nat × List Nat × List Sta):St:=
  { tmps:=slots 90 [(1, .ptr 1 0 0 0), (2, .ptr 1 1 0 0), (3, .tsl 1 (c.map encN)), (4, .tsl 1 ((byM m).map encN)), (5, .sref 1 2 0 a.2.1.length), (6, .ptr 1 3 0 0), (7, .int .i64 a.1)],
    heap:=r11H m a.2.1++r11O a.2.2, base:=0 }
theorem refLeast_run (m:List Sta) (h:SmallM m) (hv:validM m=true) (hm:m.length≤100000) (hlo : ∀ s, s∈m→∀ a, a∈s.arcs→0≤a.lo∧a.lo<256):PRun CB 356 [encMa m] (encMa (leastM m)):=by
  have hnx:=nxM_ok hv
  have hl0:=valid_len hv
  have hby:=byM_zero hv
  have hbl:=byM_len m
  have hnl:=nxM_len m
  have hct:=cuts_run m h hlo
  have hcs:=classes_run m h hv hlo
  have hcl:=clsM_len m
  have hI:=NumI.init (m:=m) (at':=byM m) (nx:=nxM m) (c:=clsM m) hl0
  unfold leastM
  obtain ⟨R, hR⟩ : ∃ R, numM m (byM m) (nxM m) (clsM m)=R:=⟨_, rfl⟩
  rw[hR] at hI ⊢
  obtain ⟨c, hc⟩ : ∃ c, clsM m=c:=⟨_, rfl⟩
  rw[hc] at hI hcs hcl
  have hC : ∀ t, t<m.length→(c.map encN)[t]?=some (.int .i64 (clO c t)):=fun t ht=>by
    obtain ⟨x, hx⟩:=exAt (show t<c.length by omega)
    rw[mget (g:=encN) hx]
    unfold clO
    rw[List.getD_eq_getElem?_getD, hx]
    rfl
  have hin:=fun (Q:Ex→St→Prop) (o:List Nat) (hol : ∀ t, t∈o→t<m.length) (hon:(o.map (clO c)).Nodup) (i q:Nat) (x:Sta) (hx:m[q]?=some x) (l:List Nat) (hl:(nxM m)[q]?=some l) (out:List Sta) (hout:out.length<2^20) (k:Nat) (hk:k<l.length)=>ref_b (Q:=Q) m h hv (by omega) c hC o hol hon i q x hx l hl out hout k hk
  have hacs:=fun (tg:List Nat) (ht:tg.length=(byM m).length)=>refArcs_run (byM m) tg hbl ht byM_lt
  refine prun_of ac356 rfl ?_
  rw[show encB (stN (losS m) 256) = .tsl 1 ((byM m).map encN) from rfl] at hct
  rw[show encB c = .tsl 1 (c.map encN) from rfl] at hcs
  rw[show encB (byM m) = .tsl 1 ((byM m).map encN) from rfl] at hacs
  unfold encMa at hct hcs ⊢
  simp only[AFn.lp, ac356, ACode.loopsOf, List.cons_append, List.append_nil, List.nil_append, List.getD_cons_succ, List.getD_cons_zero] at hin
  (repeat' first|simp (disch:=omega) only[go_sem, ac356, enter, List.length_map, markFrom, Blk.mark, List.contains_cons, List.contains_nil, Bool.or_false, Bool.or_true]|refine pure_of _ (hcs) ?_|refine pure_of _ (hct) ?_|(apply spl<;>intro h<;>try simp (disch:=omega) only[go_sem, ac356, enter, List.length_map, markFrom, Blk.mark, List.contains_cons, List.contains_nil, Bool.or_false, Bool.or_true , h]))
  all_goals try omega
  refine loop_ofH (α:=Nat × List Nat × List Sta) (r11S m c) (fun a=>NumI m (byM m) (nxM m) c R a.1 a.2.1 a.2.2) (fun a=>m.length+1-a.1) (0, [0], []) (by
    rw[r11S, r11H, r11O]
    rfl) hI ?_
  intro Q' hQ' a hIa
  obtain ⟨i, o, out⟩:=a
  have hos:=hIa.small
  have hlen:=hIa.len
  have hle:=hIa.le
  dsimp only at hIa hos hlen hle
  by_cases hlt:i<o.length
  · obtain ⟨q, hq⟩:=exAt hlt
    have hqm:=hIa.low q (List.mem_of_getElem? hq)
    obtain ⟨x, hx⟩:=exAt hqm
    obtain ⟨l, hl⟩:=exAt (show q<(nxM m).length by omega)
    obtain ⟨hll, hlt2⟩:=hnx l (List.mem_of_getElem? hl)
    have hq2:(o.map encN)[i]?=some (.int .i64 q):=mget hq
    have hx2:(m.map encSta)[q]?=some (.agg [.bool x.acc, .tsl 3 (x.arcs.map encArc)]):=mget hx
    have hq0:o.getD i 0=q:=by rw[List.getD_eq_getElem?_getD, hq]; rfl
    have hl0:(nxM m).getD q []=l:=by rw[List.getD_eq_getElem?_getD, hl]; rfl
    have hac:accM m q=x.acc:=by unfold accM; rw[hx]
    have hst:=hIa.step hlt (by rw[hq0, hl0]; exact hlt2)
    rw[hq0, hl0, hac] at hst
    obtain ⟨⟨ns, o'⟩, hr⟩ : ∃ r, ordGo c o l=r:=⟨_, rfl⟩
    rw[hr] at hst
    dsimp only at hst
    have hnsl:ns.length=l.length:=by
      have:=ordGo_len c l o
      rw[hr] at this
      exact this
    have har:=hacs ns (by omega)
    have hpos:0<(byM m).length:=List.length_pos_iff.2 hby
    have hos':o'.length≤m.length:=hst.small
    obtain ⟨A, hA⟩ : ∃ A, arcK (byM m) ns (byM m).length=A:=⟨_, rfl⟩
    rw[hA] at hst har
    rw[show encB ns = .tsl 1 (ns.map encN) from rfl] at har
    have hnt:(ns.map encN).take ns.length=ns.map encN:=List.take_of_length_le (by rw[List.length_map]; exact Nat.le_refl _)
    cases out with
    | nil=>
      refine ⟨?_⟩
      rw[r11S, r11H, r11O]
      (repeat' first|simp (disch:=omega) only[go_sem, hq2, List.length_map, List.map_cons, List.length_cons]|(apply spl<;>intro h<;>try simp (disch:=omega) only[go_sem, hq2, List.length_map, List.map_cons, List.length_cons, h]))
      all_goals try omega
      refine loop_ofH (α:=Nat) (r11B m c o i q l []) (fun k=>k≤l.length) (fun k=>l.length-k) 0 (by
        rw[r11B, List.take_zero, ordGo_nil]
        dsimp only
        rw[r11H, r11O, r11T, r11V]
        exact norm_by0 [[], [], [], []] [0, 1, 2, 3] rfl rfl rfl rfl rfl rfl) (Nat.zero_le _) ?_
      intro Q2 hQ2 k hk
      by_cases hkt:k<l.length
      · exact hin Q2 o hIa.low hIa.nd i q x hx l hl [] (by simp only[List.length_cons, List.length_nil]; omega) k hkt
      · have hke:k=l.length:=by omega
        subst hke
        cases ns with
        | nil=>simp at hnsl; omega
        | cons n0 nt=>
          have hnt2:nt.length+1=l.length:=hnsl
          refine ⟨?_⟩
          rw[r11B, List.take_length, hr]
          dsimp only
          rw[r11H, r11O, r11T, r11V, r11N]
          (repeat' first|simp (disch:=omega) only[go_sem, List.length_map, List.map_cons, List.length_cons]|(apply spl<;>intro h<;>try simp (disch:=omega) only[go_sem, List.length_map, List.map_cons, List.length_cons, h]))
          refine hQ2 _ _ ?_
          rw[List.map_cons, List.length_cons] at hnt
          rw[List.map_cons] at har
          (repeat' first|simp (disch:=omega) only[go_sem, List.length_map, List.map_cons, List.length_cons, hx2, hnt, markFrom, Blk.mark, List.contains_cons, List.contains_nil, Bool.or_false, Bool.or_true]|refine pure_of _ (har) ?_|(apply spl<;>intro h<;>try simp (disch:=omega) only[go_sem, List.length_map, List.map_cons, List.length_cons, hx2, hnt, markFrom, Blk.mark, List.contains_cons, List.contains_nil, Bool.or_false, Bool.or_true , h]))
          all_goals try omega
          refine ⟨(i+1, o', []++[⟨x.acc, A⟩]), ?_, hst, by dsimp only; omega⟩
          rw[r11S, r11H]
          dsimp only
          rw[r11O_snoc]
          exact norm_by (R:=[[], [], [], [6], [], [], []]) (ks:=[0, 1, 2, 3, 6]) (dr:=[(4, (encN n0::nt.map encN).length)]) rfl rfl rfl rfl rfl rfl rfl
    | cons s0 os=>
      have hos2:os.length+1=i:=by simpa using hlen
      refine ⟨?_⟩
      rw[r11S, r11H, r11O]
      (repeat' first|simp (disch:=omega) only[go_sem, hq2, List.length_map, List.map_cons, List.length_cons]|(apply spl<;>intro h<;>try simp (disch:=omega) only[go_sem, hq2, List.length_map, List.map_cons, List.length_cons, h]))
      all_goals try omega
      refine loop_ofH (α:=Nat) (r11B m c o i q l (s0::os)) (fun k=>k≤l.length) (fun k=>l.length-k) 0 (by
        rw[r11B, List.take_zero, ordGo_nil]
        dsimp only
        rw[r11H, r11O, r11T, r11V]
        exact norm_by0 [[], [], [], [4], []] [0, 1, 2, 3, 4] rfl rfl rfl rfl rfl rfl) (Nat.zero_le _) ?_
      intro Q2 hQ2 k hk
      by_cases hkt:k<l.length
      · exact hin Q2 o hIa.low hIa.nd i q x hx l hl (s0::os) (by simp only[List.length_cons, List.length_nil]; omega) k hkt
      · have hke:k=l.length:=by omega
        subst hke
        cases ns with
        | nil=>simp at hnsl; omega
        | cons n0 nt=>
          have hnt2:nt.length+1=l.length:=hnsl
          refine ⟨?_⟩
          rw[r11B, List.take_length, hr]
          dsimp only
          rw[r11H, r11O, r11T, r11V, r11N]
          (repeat' first|simp (disch:=omega) only[go_sem, List.length_map, List.map_cons, List.length_cons]|(apply spl<;>intro h<;>try simp (disch:=omega) only[go_sem, List.length_map, List.map_cons, List.length_cons, h]))
          refine hQ2 _ _ ?_
          rw[List.map_cons, List.length_cons] at hnt
          rw[List.map_cons] at har
          (repeat' first|simp (disch:=omega) only[go_sem, List.length_map, List.map_cons, List.length_cons, hx2, hnt, markFrom, Blk.mark, List.contains_cons, List.contains_nil, Bool.or_false, Bool.or_true]|refine pure_of _ (har) ?_|(apply spl<;>intro h<;>try simp (disch:=omega) only[go_sem, List.length_map, List.map_cons, List.length_cons, hx2, hnt, markFrom, Blk.mark, List.contains_cons, List.contains_nil, Bool.or_false, Bool.or_true , h]))
          all_goals try omega
          refine ⟨(i+1, o', (s0::os)++[⟨x.acc, A⟩]), ?_, hst, by dsimp only; omega⟩
          rw[r11S, r11H]
          dsimp only
          rw[r11O_snoc]
          exact norm_by (R:=[[], [], [], [7], [], [], [], []]) (ks:=[0, 1, 2, 3, 7]) (dr:=[(5, (encN n0::nt.map encN).length)]) rfl rfl rfl rfl rfl rfl rfl
  · have hRo:=hIa.done hlt
    rw[hRo]
    cases hs:out with
    | nil=>
      rw[hs] at hlen
      exact (hIa.pos (List.length_eq_zero_iff.1 (by simp at hlen; omega))).elim
    | cons s ls=>
      have hsl:(s::ls).length=i:=by rw[←hs]; exact hlen
      rw[List.length_cons] at hsl
      have e2:(ls.map encSta).take ls.length=ls.map encSta:=List.take_of_length_le (by rw[List.length_map]; exact Nat.le_refl _)
      refine ⟨?_⟩
      rw[hRo, hs] at hQ'
      rw[r11S, r11H, r11O]
      (repeat' first|simp (disch:=omega) only[go_sem, List.length_map, List.map_cons, List.length_cons]|(apply spl<;>intro h<;>try simp (disch:=omega) only[go_sem, List.length_map, List.map_cons, List.length_cons, h]))
      refine hQ' _ _ ?_
      (repeat' first|simp (disch:=omega) only[go_sem, List.length_map, List.map_cons, List.length_cons, e2]|(apply spl<;>intro h<;>try simp (disch:=omega) only[go_sem, List.length_map, List.map_cons, List.length_cons, e2, h]))
      all_goals first | omega | rfl
end Ago
/- Automata: the reference's Same tells whether two automata are one. -/
set_option maxRecDepth 100000
set_option maxHeartbeats 4000000
namespace Ago
open Go (IntKind)
section
variable {R:Nat→List AV→Heap→AV→Heap→Prop} {PR:Nat→List AV→AV→Prop}
theorem draw3_of {k:Nat} {a b c:List AOper} {Q:Ex→St→Prop} {s:St} (s':St) (h1 : @withStI (s.keep k) ⟨awOps R PR a fun t=>t=s'⟩) (h2 : @withStI (s.keep k) ⟨awOps R PR b fun t=>t=s'⟩) (h3 : @withStI (s.keep k) ⟨awOps R PR c fun t=>t=s'⟩) (h : @withStI { s' with rb:=0 } ⟨Q .normal⟩):aw R PR (.draw k [a, b, c]) Q s:=by
  unfold withStI at h1 h2 h3 h
  refine ⟨s', by simp, fun l hl=>?_, h⟩
  rcases List.mem_cons.1 hl with rfl | hl
  · exact h1
  rcases List.mem_cons.1 hl with rfl | hl
  · exact h2
  · rw[List.mem_singleton.1 hl]
    exact h3
end
def sameArc (a b:Arc):Bool:=decide (a.lo=b.lo) && decide (a.hi=b.hi) && decide (a.next=b.next)
def sameArcs:List Arc→List Arc→Bool
  | [], []=>true
  | a::l, b::r=>sameArc a b && sameArcs l r
  | _, _=>false
def sameSta (a b:Sta):Bool:=decide (a.acc=b.acc) && sameArcs a.arcs b.arcs
def sameM:List Sta→List Sta→Bool
  | [], []=>true
  | a::l, b::r=>sameSta a b && sameM l r
  | _, _=>false
theorem sameArcs_len : ∀ (a b:List Arc), a.length≠b.length→sameArcs a b=false
  | [], [], h=>absurd rfl h
  | [], _::_, _=>rfl
  | _::_, [], _=>rfl
  | a::l, b::r, h=>by
    rw[sameArcs, sameArcs_len l r (by simpa using h), Bool.and_false]
theorem sameM_len : ∀ (a b:List Sta), a.length≠b.length→sameM a b=false
  | [], [], h=>absurd rfl h
  | [], _::_, _=>rfl
  | _::_, [], _=>rfl
  | a::l, b::r, h=>by
    rw[sameM, sameM_len l r (by simpa using h), Bool.and_false]
theorem sameArcs_eq : ∀ (a b:List Arc), sameArcs a b=true↔a=b
  | [], []=>by simp [sameArcs]
  | [], _::_=>by simp [sameArcs]
  | _::_, []=>by simp [sameArcs]
  | ⟨a1, a2, a3⟩::l, ⟨b1, b2, b3⟩::r=>by
    simp [sameArcs, sameArc, sameArcs_eq l r, and_assoc]
theorem sameM_eq : ∀ (a b:List Sta), sameM a b=true↔a=b
  | [], []=>by simp [sameM]
  | [], _::_=>by simp [sameM]
  | _::_, []=>by simp [sameM]
  | ⟨a1, a2⟩::l, ⟨b1, b2⟩::r=>by
    simp [sameM, sameSta, sameArcs_eq, sameM_eq l r, and_assoc]
theorem same_run (a b:List Sta) (ha:SmallM a) (hb:SmallM b):PRun CB 321 [encMa a, encMa b] (.bool (sameM a b)):=by
  obtain ⟨hm, hA⟩:=ha
  obtain ⟨hn, hB⟩:=hb
  refine prun_of ac321 rfl ?_
  unfold encMa
  by_cases hl : ¬ a.length=b.length
  · rw[sameM_len a b hl]
    (repeat' first|simp (disch:=omega) only[go_sem, ac321, enter, List.length_map]|(apply spl<;>intro h<;>try simp (disch:=omega) only[go_sem, ac321, enter, List.length_map, h]))
    all_goals omega
  have hl:a.length=b.length:=Decidable.of_not_not hl
  (repeat' first|simp (disch:=omega) only[go_sem, ac321, enter, List.length_map]|(apply spl<;>intro h<;>try simp (disch:=omega) only[go_sem, ac321, enter, List.length_map, h]))
  all_goals try omega
  refine loop_of (α:=Nat) (fun k=>{ tmps:=slots 65 [(2, .ptr 1 0 0 0), (3, .ptr 1 1 0 0), (5, .int .i64 k)], heap:=[.row 1 [.agg [.tsl 2 (a.map encSta)]] false true 0, .row 1 [.agg [.tsl 2 (b.map encSta)]] false true 1], base:=0 }) (fun k=>k≤a.length∧sameM (a.drop k) (b.drop k)=sameM a b) (fun k=>a.length-k) 0 rfl ⟨Nat.zero_le _, rfl⟩ ?_
  rintro k ⟨hk, h3⟩
  by_cases hlt:k<a.length
  · obtain ⟨x, hx⟩:=exAt hlt
    obtain ⟨y, hy⟩:=exAt (l:=b) (k:=k) (by omega)
    have hxa:=hA x (List.mem_of_getElem? hx)
    have hyb:=hB y (List.mem_of_getElem? hy)
    have hx2:(a.map encSta)[k]?=some (.agg [.bool x.acc, .tsl 3 (x.arcs.map encArc)]):=mget hx
    have hy2:(b.map encSta)[k]?=some (.agg [.bool y.acc, .tsl 3 (y.arcs.map encArc)]):=mget hy
    rw[dropC hx, dropC hy, sameM] at h3
    (repeat' first|simp (disch:=omega) only[go_sem, hx2, hy2, List.length_map]|(apply spl<;>intro h<;>try simp (disch:=omega) only[go_sem, hx2, hy2, List.length_map, h]))
    all_goals try omega
    refine draw3_of ?ds ?d1 ?d2 ?d3 ?d4
    case d1=>
      (repeat' first|simp (disch:=omega) only[go_sem, keep_mk, hx2, hy2, List.length_map]|(apply spl<;>intro h<;>try simp (disch:=omega) only[go_sem, keep_mk, hx2, hy2, List.length_map, h]))
      all_goals first | omega | exact rfl
    case d2=>
      (repeat' first|simp (disch:=omega) only[go_sem, keep_mk, hx2, hy2, List.length_map]|(apply spl<;>intro h<;>try simp (disch:=omega) only[go_sem, keep_mk, hx2, hy2, List.length_map, h]))
      all_goals first | omega | exact rfl
    case d3=>
      (repeat' first|simp (disch:=omega) only[go_sem, keep_mk, hx2, hy2, List.length_map]|(apply spl<;>intro h<;>try simp (disch:=omega) only[go_sem, keep_mk, hx2, hy2, List.length_map, h]))
      all_goals first | omega | exact rfl
    case d4=>
      by_cases hc:x.acc=y.acc∧x.arcs.length=y.arcs.length
      · obtain ⟨c1, c2⟩:=hc
        have h4:(sameArcs x.arcs y.arcs && sameM (a.drop (k+1)) (b.drop (k+1)))=sameM a b:=by
          rw[←h3, sameSta, c1]
          simp
        (repeat' first|simp (disch:=omega) only[go_sem, c1, List.length_map]|(apply spl<;>intro h<;>try simp (disch:=omega) only[go_sem, c1, List.length_map, h]))
        all_goals try omega
        refine loop_of (α:=Nat) (fun j=>{ tmps:=slots 65 [(2, .ptr 1 0 0 0), (3, .ptr 1 1 0 0), (5, .int .i64 k), (6, .ptr 2 2 0 0), (7, .ptr 2 3 0 0), (8, .int .i64 j)], heap:=[.row 1 [.agg [.tsl 2 (a.map encSta)]] false true 0, .row 1 [.agg [.tsl 2 (b.map encSta)]] false true 1, .row 2 [.agg [.bool y.acc, .tsl 3 (x.arcs.map encArc)]] false true 2, .row 2 [.agg [.bool y.acc, .tsl 3 (y.arcs.map encArc)]] false true 3], base:=0 }) (fun j=>j≤x.arcs.length∧sameArcs (x.arcs.drop j) (y.arcs.drop j)=sameArcs x.arcs y.arcs) (fun j=>x.arcs.length-j) 0 rfl ⟨Nat.zero_le _, rfl⟩ ?_
        rintro j ⟨hj, h5⟩
        by_cases hjt:j<x.arcs.length
        · obtain ⟨p, hp⟩:=exAt hjt
          obtain ⟨q, hq⟩:=exAt (l:=y.arcs) (k:=j) (by omega)
          have hp2:(x.arcs.map encArc)[j]?=some (.agg [.int .i64 p.lo, .int .i64 p.hi, .int .i64 p.next]):=mget hp
          have hq2:(y.arcs.map encArc)[j]?=some (.agg [.int .i64 q.lo, .int .i64 q.hi, .int .i64 q.next]):=mget hq
          rw[dropC hp, dropC hq, sameArcs] at h5
          by_cases e1:p.lo=q.lo∧p.hi=q.hi∧p.next=q.next
          · obtain ⟨d1, d2, d3⟩:=e1
            have h6:sameArcs (x.arcs.drop (j+1)) (y.arcs.drop (j+1))=sameArcs x.arcs y.arcs:=by
              rw[←h5, sameArc, d1, d2, d3]
              simp
            (repeat' first|simp (disch:=omega) only[go_sem, hp2, hq2, d1, d2, d3, List.length_map]|(apply spl<;>intro h<;>try simp (disch:=omega) only[go_sem, hp2, hq2, d1, d2, d3, List.length_map, h]))
            all_goals try omega
            exact ⟨j+1, rfl, ⟨hjt, h6⟩, by omega⟩
          · have h6:sameM a b=false:=by
              rw[←h4, ← h5]
              have:sameArc p q=false:=by
                unfold sameArc
                by_cases e2:p.lo=q.lo<;>by_cases e3:p.hi=q.hi<;>by_cases e4:p.next=q.next<;>simp [e2, e3, e4]
                exact (e1 ⟨e2, e3, e4⟩).elim
              rw[this]
              simp
            rw[h6]
            (repeat' first|simp (disch:=omega) only[go_sem, hp2, hq2, List.length_map]|(apply spl<;>intro h<;>try simp (disch:=omega) only[go_sem, hp2, hq2, List.length_map, h]))
            all_goals first | omega | exact (e1 (by simpa using h)).elim
        · have hj2:j=x.arcs.length:=by omega
          have h6:sameArcs x.arcs y.arcs=true:=by
            rw[←h5, hj2, List.drop_length, c2, List.drop_length]
            rfl
          rw[h6, Bool.true_and] at h4
          (repeat' first|simp (disch:=omega) only[go_sem, List.length_map]|(apply spl<;>intro h<;>try simp (disch:=omega) only[go_sem, List.length_map, h]))
          all_goals try omega
          exact ⟨k+1, rfl, ⟨hlt, h4⟩, by omega⟩
      · have h4:sameM a b=false:=by
          rw[←h3, sameSta]
          by_cases c1:x.acc=y.acc
          · rw[sameArcs_len _ _ (fun h=>hc ⟨c1, h⟩)]
            simp
          · simp [c1]
        rw[h4]
        (repeat' first|simp (disch:=omega) only[go_sem, List.length_map]|(apply spl<;>intro h<;>try simp (disch:=omega) only[go_sem, List.length_map, h]))
        all_goals first | omega | exact (hc ⟨by simpa using ‹(x.acc == y.acc)=true›, by omega⟩).elim
  · have hk2:k=a.length:=by omega
    have h4:sameM a b=true:=by
      rw[←h3, hk2, List.drop_length, hl, List.drop_length]
      rfl
    rw[h4]
    (repeat' first|simp (disch:=omega) only[go_sem, List.length_map]|(apply spl<;>intro h<;>try simp (disch:=omega) only[go_sem, List.length_map, h]))
    all_goals omega
end Ago
