/- Least automata: the reference's least. -/
import Derived.Test.YtndeonfobpmddaaGreatDoorRunJ
import Derived.Test.YtndeonfobpmddaaGreatDoorRunA
import Derived.Test.YtndeonfobpmddaaGreatDoorRunH
set_option linter.unusedSimpArgs false
set_option linter.unusedVariables false
set_option maxRecDepth 100000
set_option maxHeartbeats 16000000
namespace Ago
open Go (IntKind)
def r11S (m:List Sta) (c:List Nat) (a:Nat × List Nat × List Sta):St:=
  { tmps:=slots 90 [(1, .ptr 1 0 0 0), (2, .ptr 1 1 0 0), (3, .tsl 1 (c.map encN)), (4, .tsl 1 ((byM m).map encN)), (5, .sref 1 2 0 a.2.1.length), (6, .ptr 1 3 0 0), (7, .int .i64 a.1)],
    heap:=r11H m a.2.1++r11O a.2.2, base:=0 }
theorem refLeast_run (m:List Sta) (h:SmallM m) (hv:validM m=true) (hm:m.length≤80) (hlo : ∀ s, s∈m→∀ a, a∈s.arcs→0≤a.lo∧a.lo<256):PRun CB 356 [encMa m] (encMa (leastM m)):=by
  have hnx:=nxM_ok hv
  have hl0:=valid_len hv
  have hby:=byM_zero hv
  have hbl:=byM_len m
  have hnl:=nxM_len m
  have hct:=cuts_run m h hlo
  have hcs:=classes_run m h hv hlo
  have hcl:=clsM_len m
  have hI:=NumI.init (m:=m) (at':=byM m) (nx:=nxM m) (c:=clsM m) hl0
  unfold leastM
  obtain ⟨R, hR⟩ : ∃ R, numM m (byM m) (nxM m) (clsM m)=R:=⟨_, rfl⟩
  rw[hR] at hI ⊢
  obtain ⟨c, hc⟩ : ∃ c, clsM m=c:=⟨_, rfl⟩
  rw[hc] at hI hcs hcl
  have hC : ∀ t, t<m.length→(c.map encN)[t]?=some (.int .i64 (clO c t)):=fun t ht=>by
    obtain ⟨x, hx⟩:=exAt (show t<c.length by omega)
    rw[mget (g:=encN) hx]
    unfold clO
    rw[List.getD_eq_getElem?_getD, hx]
    rfl
  have hin:=fun (Q:Ex→St→Prop) (o:List Nat) (hol : ∀ t, t∈o→t<m.length) (hon:(o.map (clO c)).Nodup) (i q:Nat) (x:Sta) (hx:m[q]?=some x) (l:List Nat) (hl:(nxM m)[q]?=some l) (out:List Sta) (hout:out.length<2^20) (k:Nat) (hk:k<l.length)=>ref_b (Q:=Q) m h hv (by omega) c hC o hol hon i q x hx l hl out hout k hk
  have hacs:=fun (to:List Nat) (ht:to.length=(byM m).length)=>refArcs_run (byM m) to hbl ht byM_lt
  refine prun_of ac356 rfl ?_
  rw[show encB (stN (losS m) 256) = .tsl 1 ((byM m).map encN) from rfl] at hct
  rw[show encB c = .tsl 1 (c.map encN) from rfl] at hcs
  rw[show encB (byM m) = .tsl 1 ((byM m).map encN) from rfl] at hacs
  unfold encMa at hct hcs ⊢
  simp only[AFn.lp, ac356, ACode.loopsOf, List.cons_append, List.append_nil, List.nil_append, List.getD_cons_succ, List.getD_cons_zero] at hin
  (repeat' first|simp (disch:=omega) only[go_sem, ac356, enter, List.length_map, markFrom, Blk.mark, List.contains_cons, List.contains_nil, Bool.or_false, Bool.or_true]|refine pure_of _ (hcs) ?_|refine pure_of _ (hct) ?_|(apply spl<;>intro h<;>try simp (disch:=omega) only[go_sem, ac356, enter, List.length_map, markFrom, Blk.mark, List.contains_cons, List.contains_nil, Bool.or_false, Bool.or_true , h]))
  all_goals try omega
  refine loop_ofH (α:=Nat × List Nat × List Sta) (r11S m c) (fun a=>NumI m (byM m) (nxM m) c R a.1 a.2.1 a.2.2) (fun a=>m.length+1-a.1) (0, [0], []) (by
    rw[r11S, r11H, r11O]
    rfl) hI ?_
  intro Q' hQ' a hIa
  obtain ⟨i, o, out⟩:=a
  have hos:=hIa.small
  have hlen:=hIa.len
  have hle:=hIa.le
  dsimp only at hIa hos hlen hle
  by_cases hlt:i<o.length
  · obtain ⟨q, hq⟩:=exAt hlt
    have hqm:=hIa.low q (List.mem_of_getElem? hq)
    obtain ⟨x, hx⟩:=exAt hqm
    obtain ⟨l, hl⟩:=exAt (show q<(nxM m).length by omega)
    obtain ⟨hll, hlt2⟩:=hnx l (List.mem_of_getElem? hl)
    have hq2:(o.map encN)[i]?=some (.int .i64 q):=mget hq
    have hx2:(m.map encSta)[q]?=some (.agg [.bool x.acc, .tsl 3 (x.arcs.map encArc)]):=mget hx
    have hq0:o.getD i 0=q:=by rw[List.getD_eq_getElem?_getD, hq]; rfl
    have hl0:(nxM m).getD q []=l:=by rw[List.getD_eq_getElem?_getD, hl]; rfl
    have hac:accM m q=x.acc:=by unfold accM; rw[hx]
    have hst:=hIa.step hlt (by rw[hq0, hl0]; exact hlt2)
    rw[hq0, hl0, hac] at hst
    obtain ⟨⟨ns, o'⟩, hr⟩ : ∃ r, ordGo c o l=r:=⟨_, rfl⟩
    rw[hr] at hst
    dsimp only at hst
    have hnsl:ns.length=l.length:=by
      have:=ordGo_len c l o
      rw[hr] at this
      exact this
    have har:=hacs ns (by omega)
    have hpos:0<(byM m).length:=List.length_pos_iff.2 hby
    have hos':o'.length≤m.length:=hst.small
    obtain ⟨A, hA⟩ : ∃ A, arcK (byM m) ns (byM m).length=A:=⟨_, rfl⟩
    rw[hA] at hst har
    rw[show encB ns = .tsl 1 (ns.map encN) from rfl] at har
    have hnt:(ns.map encN).take ns.length=ns.map encN:=List.take_of_length_le (by rw[List.length_map]; exact Nat.le_refl _)
    cases out with
    | nil=>
      refine ⟨?_⟩
      rw[r11S, r11H, r11O]
      (repeat' first|simp (disch:=omega) only[go_sem, hq2, List.length_map, List.map_cons, List.length_cons]|(apply spl<;>intro h<;>try simp (disch:=omega) only[go_sem, hq2, List.length_map, List.map_cons, List.length_cons, h]))
      all_goals try omega
      refine loop_ofH (α:=Nat) (r11B m c o i q l []) (fun k=>k≤l.length) (fun k=>l.length-k) 0 (by
        rw[r11B, List.take_zero, ordGo_nil]
        dsimp only
        rw[r11H, r11O, r11T, r11V]
        exact norm_by0 [[], [], [], []] [0, 1, 2, 3] rfl rfl rfl rfl rfl rfl) (Nat.zero_le _) ?_
      intro Q2 hQ2 k hk
      by_cases hkt:k<l.length
      · exact hin Q2 o hIa.low hIa.nd i q x hx l hl [] (by simp only[List.length_cons, List.length_nil]; omega) k hkt
      · have hke:k=l.length:=by omega
        subst hke
        cases ns with
        | nil=>simp at hnsl; omega
        | cons n0 nt=>
          have hnt2:nt.length+1=l.length:=hnsl
          refine ⟨?_⟩
          rw[r11B, List.take_length, hr]
          dsimp only
          rw[r11H, r11O, r11T, r11V, r11N]
          (repeat' first|simp (disch:=omega) only[go_sem, List.length_map, List.map_cons, List.length_cons]|(apply spl<;>intro h<;>try simp (disch:=omega) only[go_sem, List.length_map, List.map_cons, List.length_cons, h]))
          refine hQ2 _ _ ?_
          rw[List.map_cons, List.length_cons] at hnt
          rw[List.map_cons] at har
          (repeat' first|simp (disch:=omega) only[go_sem, List.length_map, List.map_cons, List.length_cons, hx2, hnt, markFrom, Blk.mark, List.contains_cons, List.contains_nil, Bool.or_false, Bool.or_true]|refine pure_of _ (har) ?_|(apply spl<;>intro h<;>try simp (disch:=omega) only[go_sem, List.length_map, List.map_cons, List.length_cons, hx2, hnt, markFrom, Blk.mark, List.contains_cons, List.contains_nil, Bool.or_false, Bool.or_true , h]))
          all_goals try omega
          refine ⟨(i+1, o', []++[⟨x.acc, A⟩]), ?_, hst, by dsimp only; omega⟩
          rw[r11S, r11H]
          dsimp only
          rw[r11O_snoc]
          exact norm_by (R:=[[], [], [], [6], [], [], []]) (ks:=[0, 1, 2, 3, 6]) (dr:=[(4, (encN n0::nt.map encN).length)]) rfl rfl rfl rfl rfl rfl rfl
    | cons s0 os=>
      have hos2:os.length+1=i:=by simpa using hlen
      refine ⟨?_⟩
      rw[r11S, r11H, r11O]
      (repeat' first|simp (disch:=omega) only[go_sem, hq2, List.length_map, List.map_cons, List.length_cons]|(apply spl<;>intro h<;>try simp (disch:=omega) only[go_sem, hq2, List.length_map, List.map_cons, List.length_cons, h]))
      all_goals try omega
      refine loop_ofH (α:=Nat) (r11B m c o i q l (s0::os)) (fun k=>k≤l.length) (fun k=>l.length-k) 0 (by
        rw[r11B, List.take_zero, ordGo_nil]
        dsimp only
        rw[r11H, r11O, r11T, r11V]
        exact norm_by0 [[], [], [], [4], []] [0, 1, 2, 3, 4] rfl rfl rfl rfl rfl rfl) (Nat.zero_le _) ?_
      intro Q2 hQ2 k hk
      by_cases hkt:k<l.length
      · exact hin Q2 o hIa.low hIa.nd i q x hx l hl (s0::os) (by simp only[List.length_cons, List.length_nil]; omega) k hkt
      · have hke:k=l.length:=by omega
        subst hke
        cases ns with
        | nil=>simp at hnsl; omega
        | cons n0 nt=>
          have hnt2:nt.length+1=l.length:=hnsl
          refine ⟨?_⟩
          rw[r11B, List.take_length, hr]
          dsimp only
          rw[r11H, r11O, r11T, r11V, r11N]
          (repeat' first|simp (disch:=omega) only[go_sem, List.length_map, List.map_cons, List.length_cons]|(apply spl<;>intro h<;>try simp (disch:=omega) only[go_sem, List.length_map, List.map_cons, List.length_cons, h]))
          refine hQ2 _ _ ?_
          rw[List.map_cons, List.length_cons] at hnt
          rw[List.map_cons] at har
          (repeat' first|simp (disch:=omega) only[go_sem, List.length_map, List.map_cons, List.length_cons, hx2, hnt, markFrom, Blk.mark, List.contains_cons, List.contains_nil, Bool.or_false, Bool.or_true]|refine pure_of _ (har) ?_|(apply spl<;>intro h<;>try simp (disch:=omega) only[go_sem, List.length_map, List.map_cons, List.length_cons, hx2, hnt, markFrom, Blk.mark, List.contains_cons, List.contains_nil, Bool.or_false, Bool.or_true , h]))
          all_goals try omega
          refine ⟨(i+1, o', (s0::os)++[⟨x.acc, A⟩]), ?_, hst, by dsimp only; omega⟩
          rw[r11S, r11H]
          dsimp only
          rw[r11O_snoc]
          exact norm_by (R:=[[], [], [], [7], [], [], [], []]) (ks:=[0, 1, 2, 3, 7]) (dr:=[(5, (encN n0::nt.map encN).length)]) rfl rfl rfl rfl rfl rfl rfl
  · have hRo:=hIa.done hlt
    rw[hRo]
    cases hs:out with
    | nil=>
      rw[hs] at hlen
      exact (hIa.pos (List.length_eq_zero_iff.1 (by simp at hlen; omega))).elim
    | cons s ls=>
      have hsl:(s::ls).length=i:=by rw[←hs]; exact hlen
      rw[List.length_cons] at hsl
      have e2:(ls.map encSta).take ls.length=ls.map encSta:=List.take_of_length_le (by rw[List.length_map]; exact Nat.le_refl _)
      refine ⟨?_⟩
      rw[hRo, hs] at hQ'
      rw[r11S, r11H, r11O]
      (repeat' first|simp (disch:=omega) only[go_sem, List.length_map, List.map_cons, List.length_cons]|(apply spl<;>intro h<;>try simp (disch:=omega) only[go_sem, List.length_map, List.map_cons, List.length_cons, h]))
      refine hQ' _ _ ?_
      (repeat' first|simp (disch:=omega) only[go_sem, List.length_map, List.map_cons, List.length_cons, e2]|(apply spl<;>intro h<;>try simp (disch:=omega) only[go_sem, List.length_map, List.map_cons, List.length_cons, e2, h]))
      all_goals first | omega | rfl
end Ago
/- Automata: Not, in the program (the arcs are cloned as trees). -/
set_option maxRecDepth 100000
set_option maxHeartbeats 4000000
namespace Ago
open Go (IntKind)
def ntSta (s:Sta):Sta:=⟨!s.acc, s.arcs⟩
def encStN (s:Sta):AV:=encSta (ntSta s)
theorem clP217 (l:List Arc) (h:l.length<2^30):PRun CB 217 [.tsl 3 (l.map encArc)] (.tsl 3 (l.map encArc)):=
  cloneP (n:=3) (b:=24) rfl _ (by rw[List.length_map]; unfold lim; omega) (by rw[List.length_map]; omega)
theorem frz_stN (H:Heap) (n:Nat) : ∀ l:List Sta, omap (frz H (n+2)) (l.map encStN)=some (l.map encStN)
  | []=>rfl
  | x::l=>by
    rw[List.map_cons]
    unfold omap
    rw[frz_stN H n l, show frz H (n+2) (encStN x)=some (encStN x) from rfl]
def ntSt (m:List Sta) (k:Nat):St:=
  { tmps:=slots 27 [(2, .ptr 1 0 0 0), (3, .ptr 1 1 0 0), (7, .tsl 2 (m.map encSta)), (8, .int .i64 m.length), (9, .int .i64 k)],
    heap:=match m.take k with
      | []=>[.row 1 [.agg [.snil 2]] false true 0, .row 1 [.agg [.snil 2]] false true 1]
      | s::l=>[.row 1 [.agg [.snil 2]] false true 0, .row 1 [.agg [.sref 2 2 0 (l.length+1)]] false false 1, .row 2 ((s::l).map encStN) false true 2],
    base:=0 }
theorem not_run (m:List Sta) (h:SmallM m):PRun CB 354 [encMa m] (encMa (m.map ntSta)):=by
  obtain ⟨hm, hA⟩:=h
  refine prun_of ac354 rfl ?_
  unfold encMa
  (repeat' first|simp (disch:=omega) only[go_sem, ac354, enter, List.length_map]|(apply spl<;>intro h<;>try simp (disch:=omega) only[go_sem, ac354, enter, List.length_map, h]))
  all_goals try omega
  refine loop_of (α:=Nat) (ntSt m) (fun k=>k≤m.length) (fun k=>m.length-k) 0 rfl (Nat.zero_le _) ?_
  intro k hk
  by_cases hlt:k<m.length
  · obtain ⟨x, hx⟩:=exAt hlt
    have hxa:=hA x (List.mem_of_getElem? hx)
    have hx2:(m.map encSta)[k]?=some (.agg [.bool x.acc, .tsl 3 (x.arcs.map encArc)]):=mget hx
    have hT:m.take (k+1)=m.take k++[x]:=by rw[List.take_add_one, hx]; rfl
    have hC:=clP217 x.arcs hxa
    cases hs:m.take k with
    | nil=>
      rw[ntSt, hs]
      (repeat' first|simp (disch:=omega) only[go_sem, hx2, List.length_map]|refine pure_of _ (hC) ?_|(apply spl<;>intro h<;>try simp (disch:=omega) only[go_sem, hx2, List.length_map , h]))
      all_goals try omega
      refine ⟨k+1, ?_, by omega, by omega⟩
      rw[ntSt, hT, hs]
      rfl
    | cons s l=>
      have hll:l.length+1=k:=by
        have:=congrArg List.length hs
        rw[List.length_take, List.length_cons] at this
        omega
      rw[ntSt, hs]
      (repeat' first|simp (disch:=omega) only[go_sem, hx2, List.length_map]|refine pure_of _ (hC) ?_|(apply spl<;>intro h<;>try simp (disch:=omega) only[go_sem, hx2, List.length_map , h]))
      all_goals try omega
      refine ⟨k+1, ?_, by omega, by omega⟩
      rw[ntSt, hT, hs, List.cons_append]
      simp only[List.map_cons, List.map_append, List.map_nil, List.length_append, List.length_cons, List.length_nil]
      rfl
  · have hke:k=m.length:=by omega
    subst hke
    cases hs:m with
    | nil=>
      subst hs
      rw[ntSt]
      (repeat' first|simp (disch:=omega) only[go_sem, List.length_map, List.length_nil]|(apply spl<;>intro h<;>try simp (disch:=omega) only[go_sem, List.length_map, List.length_nil, h]))
      all_goals first | omega | rfl
    | cons s l=>
      subst hs
      have e2:(l.map encStN).take l.length=l.map encStN:=List.take_of_length_le (by rw[List.length_map]; exact Nat.le_refl _)
      have e3 : ∀ H, frz H 4 (encStN s)=some (encStN s):=fun H=>rfl
      have e4 : ∀ H, omap (frz H 4) (l.map encStN)=some (l.map encStN):=fun H=>frz_stN H 2 l
      have e5:((s::l).map ntSta).map encSta=encStN s::l.map encStN:=by rw[List.map_map]; rfl
      rw[ntSt, List.take_length, e5]
      (repeat' first|simp (disch:=omega) only[go_sem, List.length_map, List.length_cons, e2, e3, e4]|(apply spl<;>intro h<;>try simp (disch:=omega) only[go_sem, List.length_map, List.length_cons, e2, e3, e4, h]))
      all_goals first | omega | rfl
def NotM (m:List Sta):List Sta:=if validM m=true then m.map ntSta else []
theorem Not_run (m:List Sta) (h:SmallM m):PRun CB 334 [encMa m] (encMa (NotM m)):=by
  have h1:=valid_run m h
  have h2:=not_run m h
  refine prun_of ac334 rfl ?_
  unfold NotM encMa
  cases hv:validM m
  · rw[hv] at h1
    unfold encMa at h1 h2
    (repeat' first|simp (disch:=omega) only[go_sem, ac334, enter]|refine pure_of _ (h1) ?_|refine pure_of _ (h2) ?_|(apply spl<;>intro h<;>try simp (disch:=omega) only[go_sem, ac334, enter , h]))
    all_goals first | omega | rfl
  · rw[hv] at h1
    unfold encMa at h1 h2
    (repeat' first|simp (disch:=omega) only[go_sem, ac334, enter]|refine pure_of _ (h1) ?_|refine pure_of _ (h2) ?_|(apply spl<;>intro h<;>try simp (disch:=omega) only[go_sem, ac334, enter , h]))
    all_goals first | omega | rfl
end Ago
/- Automata: the reference's Same tells whether two automata are one. -/
set_option maxRecDepth 100000
set_option maxHeartbeats 4000000
namespace Ago
open Go (IntKind)
section
variable {R:Nat→List AV→Heap→AV→Heap→Prop} {PR:Nat→List AV→AV→Prop}
theorem draw3_of {k:Nat} {a b c:List AOper} {Q:Ex→St→Prop} {s:St} (s':St) (h1 : @withStI (s.keep k) ⟨awOps R PR a fun t=>t=s'⟩) (h2 : @withStI (s.keep k) ⟨awOps R PR b fun t=>t=s'⟩) (h3 : @withStI (s.keep k) ⟨awOps R PR c fun t=>t=s'⟩) (h : @withStI { s' with rb:=0 } ⟨Q .normal⟩):aw R PR (.draw k [a, b, c]) Q s:=by
  unfold withStI at h1 h2 h3 h
  refine ⟨s', by simp, fun l hl=>?_, h⟩
  rcases List.mem_cons.1 hl with rfl | hl
  · exact h1
  rcases List.mem_cons.1 hl with rfl | hl
  · exact h2
  · rw[List.mem_singleton.1 hl]
    exact h3
end
def sameArc (a b:Arc):Bool:=decide (a.lo=b.lo) && decide (a.hi=b.hi) && decide (a.next=b.next)
def sameArcs:List Arc→List Arc→Bool
  | [], []=>true
  | a::l, b::r=>sameArc a b && sameArcs l r
  | _, _=>false
def sameSta (a b:Sta):Bool:=decide (a.acc=b.acc) && sameArcs a.arcs b.arcs
def sameM:List Sta→List Sta→Bool
  | [], []=>true
  | a::l, b::r=>sameSta a b && sameM l r
  | _, _=>false
theorem sameArcs_len : ∀ (a b:List Arc), a.length≠b.length→sameArcs a b=false
  | [], [], h=>absurd rfl h
  | [], _::_, _=>rfl
  | _::_, [], _=>rfl
  | a::l, b::r, h=>by
    rw[sameArcs, sameArcs_len l r (by simpa using h), Bool.and_false]
theorem sameM_len : ∀ (a b:List Sta), a.length≠b.length→sameM a b=false
  | [], [], h=>absurd rfl h
  | [], _::_, _=>rfl
  | _::_, [], _=>rfl
  | a::l, b::r, h=>by
    rw[sameM, sameM_len l r (by simpa using h), Bool.and_false]
theorem sameArcs_eq : ∀ (a b:List Arc), sameArcs a b=true↔a=b
  | [], []=>by simp [sameArcs]
  | [], _::_=>by simp [sameArcs]
  | _::_, []=>by simp [sameArcs]
  | ⟨a1, a2, a3⟩::l, ⟨b1, b2, b3⟩::r=>by
    simp [sameArcs, sameArc, sameArcs_eq l r, and_assoc]
theorem sameM_eq : ∀ (a b:List Sta), sameM a b=true↔a=b
  | [], []=>by simp [sameM]
  | [], _::_=>by simp [sameM]
  | _::_, []=>by simp [sameM]
  | ⟨a1, a2⟩::l, ⟨b1, b2⟩::r=>by
    simp [sameM, sameSta, sameArcs_eq, sameM_eq l r, and_assoc]
theorem same_run (a b:List Sta) (ha:SmallM a) (hb:SmallM b):PRun CB 321 [encMa a, encMa b] (.bool (sameM a b)):=by
  obtain ⟨hm, hA⟩:=ha
  obtain ⟨hn, hB⟩:=hb
  refine prun_of ac321 rfl ?_
  unfold encMa
  by_cases hl : ¬ a.length=b.length
  · rw[sameM_len a b hl]
    (repeat' first|simp (disch:=omega) only[go_sem, ac321, enter, List.length_map]|(apply spl<;>intro h<;>try simp (disch:=omega) only[go_sem, ac321, enter, List.length_map, h]))
    all_goals omega
  have hl:a.length=b.length:=Decidable.of_not_not hl
  (repeat' first|simp (disch:=omega) only[go_sem, ac321, enter, List.length_map]|(apply spl<;>intro h<;>try simp (disch:=omega) only[go_sem, ac321, enter, List.length_map, h]))
  all_goals try omega
  refine loop_of (α:=Nat) (fun k=>{ tmps:=slots 65 [(2, .ptr 1 0 0 0), (3, .ptr 1 1 0 0), (5, .int .i64 k)], heap:=[.row 1 [.agg [.tsl 2 (a.map encSta)]] false true 0, .row 1 [.agg [.tsl 2 (b.map encSta)]] false true 1], base:=0 }) (fun k=>k≤a.length∧sameM (a.drop k) (b.drop k)=sameM a b) (fun k=>a.length-k) 0 rfl ⟨Nat.zero_le _, rfl⟩ ?_
  rintro k ⟨hk, h3⟩
  by_cases hlt:k<a.length
  · obtain ⟨x, hx⟩:=exAt hlt
    obtain ⟨y, hy⟩:=exAt (l:=b) (k:=k) (by omega)
    have hxa:=hA x (List.mem_of_getElem? hx)
    have hyb:=hB y (List.mem_of_getElem? hy)
    have hx2:(a.map encSta)[k]?=some (.agg [.bool x.acc, .tsl 3 (x.arcs.map encArc)]):=mget hx
    have hy2:(b.map encSta)[k]?=some (.agg [.bool y.acc, .tsl 3 (y.arcs.map encArc)]):=mget hy
    rw[dropC hx, dropC hy, sameM] at h3
    (repeat' first|simp (disch:=omega) only[go_sem, hx2, hy2, List.length_map]|(apply spl<;>intro h<;>try simp (disch:=omega) only[go_sem, hx2, hy2, List.length_map, h]))
    all_goals try omega
    refine draw3_of ?ds ?d1 ?d2 ?d3 ?d4
    case d1=>
      (repeat' first|simp (disch:=omega) only[go_sem, keep_mk, hx2, hy2, List.length_map]|(apply spl<;>intro h<;>try simp (disch:=omega) only[go_sem, keep_mk, hx2, hy2, List.length_map, h]))
      all_goals first | omega | exact rfl
    case d2=>
      (repeat' first|simp (disch:=omega) only[go_sem, keep_mk, hx2, hy2, List.length_map]|(apply spl<;>intro h<;>try simp (disch:=omega) only[go_sem, keep_mk, hx2, hy2, List.length_map, h]))
      all_goals first | omega | exact rfl
    case d3=>
      (repeat' first|simp (disch:=omega) only[go_sem, keep_mk, hx2, hy2, List.length_map]|(apply spl<;>intro h<;>try simp (disch:=omega) only[go_sem, keep_mk, hx2, hy2, List.length_map, h]))
      all_goals first | omega | exact rfl
    case d4=>
      by_cases hc:x.acc=y.acc∧x.arcs.length=y.arcs.length
      · obtain ⟨c1, c2⟩:=hc
        have h4:(sameArcs x.arcs y.arcs && sameM (a.drop (k+1)) (b.drop (k+1)))=sameM a b:=by
          rw[←h3, sameSta, c1]
          simp
        (repeat' first|simp (disch:=omega) only[go_sem, c1, List.length_map]|(apply spl<;>intro h<;>try simp (disch:=omega) only[go_sem, c1, List.length_map, h]))
        all_goals try omega
        refine loop_of (α:=Nat) (fun j=>{ tmps:=slots 65 [(2, .ptr 1 0 0 0), (3, .ptr 1 1 0 0), (5, .int .i64 k), (6, .ptr 2 2 0 0), (7, .ptr 2 3 0 0), (8, .int .i64 j)], heap:=[.row 1 [.agg [.tsl 2 (a.map encSta)]] false true 0, .row 1 [.agg [.tsl 2 (b.map encSta)]] false true 1, .row 2 [.agg [.bool y.acc, .tsl 3 (x.arcs.map encArc)]] false true 2, .row 2 [.agg [.bool y.acc, .tsl 3 (y.arcs.map encArc)]] false true 3], base:=0 }) (fun j=>j≤x.arcs.length∧sameArcs (x.arcs.drop j) (y.arcs.drop j)=sameArcs x.arcs y.arcs) (fun j=>x.arcs.length-j) 0 rfl ⟨Nat.zero_le _, rfl⟩ ?_
        rintro j ⟨hj, h5⟩
        by_cases hjt:j<x.arcs.length
        · obtain ⟨p, hp⟩:=exAt hjt
          obtain ⟨q, hq⟩:=exAt (l:=y.arcs) (k:=j) (by omega)
          have hp2:(x.arcs.map encArc)[j]?=some (.agg [.int .i64 p.lo, .int .i64 p.hi, .int .i64 p.next]):=mget hp
          have hq2:(y.arcs.map encArc)[j]?=some (.agg [.int .i64 q.lo, .int .i64 q.hi, .int .i64 q.next]):=mget hq
          rw[dropC hp, dropC hq, sameArcs] at h5
          by_cases e1:p.lo=q.lo∧p.hi=q.hi∧p.next=q.next
          · obtain ⟨d1, d2, d3⟩:=e1
            have h6:sameArcs (x.arcs.drop (j+1)) (y.arcs.drop (j+1))=sameArcs x.arcs y.arcs:=by
              rw[←h5, sameArc, d1, d2, d3]
              simp
            (repeat' first|simp (disch:=omega) only[go_sem, hp2, hq2, d1, d2, d3, List.length_map]|(apply spl<;>intro h<;>try simp (disch:=omega) only[go_sem, hp2, hq2, d1, d2, d3, List.length_map, h]))
            all_goals try omega
            exact ⟨j+1, rfl, ⟨hjt, h6⟩, by omega⟩
          · have h6:sameM a b=false:=by
              rw[←h4, ← h5]
              have:sameArc p q=false:=by
                unfold sameArc
                by_cases e2:p.lo=q.lo<;>by_cases e3:p.hi=q.hi<;>by_cases e4:p.next=q.next<;>simp [e2, e3, e4]
                exact (e1 ⟨e2, e3, e4⟩).elim
              rw[this]
              simp
            rw[h6]
            (repeat' first|simp (disch:=omega) only[go_sem, hp2, hq2, List.length_map]|(apply spl<;>intro h<;>try simp (disch:=omega) only[go_sem, hp2, hq2, List.length_map, h]))
            all_goals first | omega | exact (e1 (by simpa using h)).elim
        · have hj2:j=x.arcs.length:=by omega
          have h6:sameArcs x.arcs y.arcs=true:=by
            rw[←h5, hj2, List.drop_length, c2, List.drop_length]
            rfl
          rw[h6, Bool.true_and] at h4
          (repeat' first|simp (disch:=omega) only[go_sem, List.length_map]|(apply spl<;>intro h<;>try simp (disch:=omega) only[go_sem, List.length_map, h]))
          all_goals try omega
          exact ⟨k+1, rfl, ⟨hlt, h4⟩, by omega⟩
      · have h4:sameM a b=false:=by
          rw[←h3, sameSta]
          by_cases c1:x.acc=y.acc
          · rw[sameArcs_len _ _ (fun h=>hc ⟨c1, h⟩)]
            simp
          · simp [c1]
        rw[h4]
        (repeat' first|simp (disch:=omega) only[go_sem, List.length_map]|(apply spl<;>intro h<;>try simp (disch:=omega) only[go_sem, List.length_map, h]))
        all_goals first | omega | exact (hc ⟨by simpa using ‹(x.acc == y.acc)=true›, by omega⟩).elim
  · have hk2:k=a.length:=by omega
    have h4:sameM a b=true:=by
      rw[←h3, hk2, List.drop_length, hl, List.drop_length]
      rfl
    rw[h4]
    (repeat' first|simp (disch:=omega) only[go_sem, List.length_map]|(apply spl<;>intro h<;>try simp (disch:=omega) only[go_sem, List.length_map, h]))
    all_goals omega
end Ago
/- Least automata: Not in the reference; Least on both sides; the law AutomatonLeasts. -/
set_option maxRecDepth 100000
set_option maxHeartbeats 16000000
namespace Ago
open Go (IntKind)
section
variable {R:Nat→List AV→Heap→AV→Heap→Prop} {PR:Nat→List AV→AV→Prop}
def allN (R:Nat→List AV→Heap→AV→Heap→Prop) (PR:Nat→List AV→AV→Prop) (s s':St) (ls:List (List AOper)):Prop:=∀ l, l∈ls→awOps R PR l (fun t=>t=s') s
theorem allN_nil {s s':St}:allN R PR s s' []:=fun _ h=>by cases h
theorem allN_cons {s s':St} {l:List AOper} {ls:List (List AOper)} (h : @withStI s ⟨awOps R PR l fun t=>t=s'⟩) (h2:allN R PR s s' ls):allN R PR s s' (l::ls):=fun x hx=>by
  unfold withStI at h
  rcases List.mem_cons.1 hx with rfl | hx
  · exact h
  · exact h2 x hx
theorem drawN_of {k:Nat} {l:List AOper} {ls:List (List AOper)} {Q:Ex→St→Prop} {s:St} (s':St) (h:allN R PR (s.keep k) s' (l::ls)) (h3 : @withStI { s' with rb:=0 } ⟨Q .normal⟩):aw R PR (.draw k (l::ls)) Q s:=by
  unfold withStI at h3
  exact ⟨s', by simp, h, h3⟩
end
theorem los_ok {m:List Sta} (hv:validM m=true) : ∀ s, s∈m→∀ a, a∈s.arcs→0≤a.lo∧a.lo<256:=fun s hs a ha=>los_in s.arcs 0 (by omega) (valid_arcs hv hs) a ha
def LeastM (m:List Sta):List Sta:=if validM m=true then leastM m else []
theorem Least_run (m:List Sta) (h:SmallM m) (hm:m.length≤80):PRun CB 336 [encMa m] (encMa (LeastM m)):=by
  have h1:=valid_run m h
  have h2:=least_run m h
  refine prun_of ac336 rfl ?_
  unfold LeastM encMa
  cases hv:validM m
  · rw[hv] at h1
    unfold encMa at h1
    (repeat' first|simp (disch:=omega) only[go_sem, ac336, enter]|refine pure_of _ (h1) ?_|(apply spl<;>intro h<;>try simp (disch:=omega) only[go_sem, ac336, enter , h]))
    all_goals first | omega | rfl
  · rw[hv] at h1
    have h2:=h2 hv hm
    unfold encMa at h1 h2
    (repeat' first|simp (disch:=omega) only[go_sem, ac336, enter]|refine pure_of _ (h1) ?_|refine pure_of _ (h2) ?_|(apply spl<;>intro h<;>try simp (disch:=omega) only[go_sem, ac336, enter , h]))
    all_goals first | omega | rfl
theorem refLeastM_run (m:List Sta) (h:SmallM m) (hm:m.length≤80):PRun CB 337 [encMa m] (encMa (LeastM m)):=by
  have h1:=refValid_run m h
  have h2:=refLeast_run m h
  refine prun_of ac337 rfl ?_
  unfold LeastM encMa
  cases hv:validM m
  · rw[hv] at h1
    unfold encMa at h1
    (repeat' first|simp (disch:=omega) only[go_sem, ac337, enter]|refine pure_of _ (h1) ?_|(apply spl<;>intro h<;>try simp (disch:=omega) only[go_sem, ac337, enter , h]))
    all_goals first | omega | rfl
  · rw[hv] at h1
    have h2:=h2 hv hm (los_ok hv)
    unfold encMa at h1 h2
    (repeat' first|simp (disch:=omega) only[go_sem, ac337, enter]|refine pure_of _ (h1) ?_|refine pure_of _ (h2) ?_|(apply spl<;>intro h<;>try simp (disch:=omega) only[go_sem, ac337, enter , h]))
    all_goals first | omega | rfl
theorem arcs_pos {n:Int} {l:List Arc} (h:arcsOk n 0 l=true) : ∃ a r, l=a::r:=by
  cases l with
  | nil=>
    rw[arcsOk_nil] at h
    cases h
  | cons a r=>exact ⟨a, r, rfl⟩
def rnO (out:List Sta):Heap:=match out with
  | []=>[.row 1 [.agg [.snil 2]] false true 2]
  | s::l=>[.row 1 [.agg [.sref 2 3 0 (l.length+1)]] false false 2, .row 2 ((s::l).map encSta) false true 3]
theorem rnO_snoc (l:List Sta) (s:Sta):rnO (l++[s])=[.row 1 [.agg [.sref 2 3 0 (l.length+1)]] false false 2, .row 2 ((l++[s]).map encSta) false true 3]:=by
  obtain ⟨b, t, hb⟩:=exCons l s
  have:=congrArg List.length hb
  rw[List.length_append, List.length_cons, List.length_cons, List.length_nil] at this
  rw[hb, rnO, show l.length=t.length by omega]
def rnS (m:List Sta) (k:Nat):St:=
  { tmps:=slots 37 [(1, .ptr 1 0 0 0), (2, .ptr 1 1 0 0), (3, .ptr 1 2 0 0), (4, .int .i64 k)],
    heap:=[.row 1 [.agg [.tsl 2 (m.map encSta)]] false true 0, .row 1 [.agg [.snil 2]] false true 1]++rnO ((m.take k).map ntSta), base:=0 }
theorem refNot_run (m:List Sta) (h:SmallM m):PRun CB 335 [encMa m] (encMa (NotM m)):=by
  have h1:=refValid_run m h
  obtain ⟨hm, hA⟩:=h
  refine prun_of ac335 rfl ?_
  unfold NotM encMa
  cases hv:validM m
  · rw[hv] at h1
    unfold encMa at h1
    (repeat' first|simp (disch:=omega) only[go_sem, ac335, enter]|refine pure_of _ (h1) ?_|(apply spl<;>intro h<;>try simp (disch:=omega) only[go_sem, ac335, enter , h]))
    all_goals first | omega | rfl
  · rw[hv] at h1
    unfold encMa at h1
    (repeat' first|simp (disch:=omega) only[go_sem, ac335, enter]|refine pure_of _ (h1) ?_|(apply spl<;>intro h<;>try simp (disch:=omega) only[go_sem, ac335, enter , h]))
    all_goals try omega
    refine loop_hdH (α:=Nat) (rnS m) (fun k=>k≤m.length) (fun k=>m.length-k) 0 rfl (Nat.zero_le _) ?_
    intro Q' hQ' k hk
    by_cases hlt:k<m.length
    · obtain ⟨x, hx⟩:=exAt hlt
      have hxm:=List.mem_of_getElem? hx
      have hxa:=hA x hxm
      have hx2:(m.map encSta)[k]?=some (.agg [.bool x.acc, .tsl 3 (x.arcs.map encArc)]):=mget hx
      have hT:(m.take (k+1)).map ntSta=(m.take k).map ntSta++[ntSta x]:=by rw[List.take_add_one, hx, List.map_append]; rfl
      obtain ⟨a, r, har⟩:=arcs_pos (valid_arcs hv hxm)
      have hrl:r.length+1<2^30:=by rw[har] at hxa; exact hxa
      rw[har, List.map_cons] at hx2
      obtain ⟨o, ho⟩ : ∃ o, (m.take k).map ntSta=o:=⟨_, rfl⟩
      rw[ho] at hT
      have hol:o.length=k:=by
        rw[←ho, List.length_map, List.length_take]
        omega
      have hnx:(⟨!x.acc, a::r⟩:Sta)=ntSta x:=by unfold ntSta; rw[har]
      cases o with
      | nil=>
        refine ⟨?_⟩
        rw[rnS, ho, rnO]
        (repeat' first|simp (disch:=omega) only[go_sem, List.length_map, List.map_cons, List.length_cons]|(apply spl<;>intro h<;>try simp (disch:=omega) only[go_sem, List.length_map, List.map_cons, List.length_cons, h]))
        all_goals try omega
        refine drawN_of ?s1 ?g1 ?g2
        rotate_left
        case g1=>
          repeat' first | exact allN_nil | refine allN_cons ?_ ?_
          all_goals
            (repeat' first|simp (disch:=omega) only[go_sem, keep_mk, hx2, List.length_map, List.map_cons, List.length_cons]|(apply spl<;>intro h<;>try simp (disch:=omega) only[go_sem, keep_mk, hx2, List.length_map, List.map_cons, List.length_cons, h]))
            all_goals first | rfl | omega
        case g2=>
          (repeat' first|simp (disch:=omega) only[go_sem, List.length_map, List.map_cons, List.length_cons]|(apply spl<;>intro h<;>try simp (disch:=omega) only[go_sem, List.length_map, List.map_cons, List.length_cons, h]))
          all_goals try omega
          refine ⟨k+1, ?_, by omega, by omega⟩
          have e1:=thaw_stas (A:=a::r) (l:=r.length+1) (H:=[.row 1 [.agg [.tsl 2 (m.map encSta)]] false true 0, .row 1 [.agg [.snil 2]] false true 1, .row 1 [.agg [.sref 2 5 0 1]] false false 2, .row 2 [.agg [.bool (!x.acc), .sref 3 4 0 (r.length+1)]] false false 3, .row 3 (encArc a::r.map encArc) false true 4, .row 2 [.agg [.bool (!x.acc), .sref 3 4 0 (r.length+1)]] false false 5]) (q:=4) rfl rfl [] (!x.acc)
          rw[hnx] at e1
          refine (head_thaw (r:=5) rfl rfl (thaw_row1 (ks:=[4]) rfl ⟨_, rfl⟩ e1.1 e1.2.1 (thaw_all _))).trans ?_
          rw[rnS, hT, rnO_snoc]
          exact norm_by (R:=[[], [], [5], [4], [], []]) (ks:=[0, 1, 2, 5]) (dr:=[(4, (encArc a::r.map encArc).length)]) rfl rfl rfl rfl rfl rfl rfl
      | cons s l => 
        have hll:l.length+1=k:=hol
        refine ⟨?_⟩
        rw[rnS, ho, rnO]
        (repeat' first|simp (disch:=omega) only[go_sem, List.length_map, List.map_cons, List.length_cons]|(apply spl<;>intro h<;>try simp (disch:=omega) only[go_sem, List.length_map, List.map_cons, List.length_cons, h]))
        all_goals try omega
        refine drawN_of ?s2 ?g3 ?g4
        rotate_left
        case g3=>
          repeat' first | exact allN_nil | refine allN_cons ?_ ?_
          all_goals
            (repeat' first|simp (disch:=omega) only[go_sem, keep_mk, hx2, List.length_map, List.map_cons, List.length_cons]|(apply spl<;>intro h<;>try simp (disch:=omega) only[go_sem, keep_mk, hx2, List.length_map, List.map_cons, List.length_cons, h]))
            all_goals first | rfl | omega
        case g4=>
          (repeat' first|simp (disch:=omega) only[go_sem, List.length_map, List.map_cons, List.length_cons]|(apply spl<;>intro h<;>try simp (disch:=omega) only[go_sem, List.length_map, List.map_cons, List.length_cons, h]))
          all_goals try omega
          refine ⟨k+1, ?_, by omega, by omega⟩
          have e1:=thaw_stas (A:=a::r) (l:=r.length+1) (H:=[.row 1 [.agg [.tsl 2 (m.map encSta)]] false true 0, .row 1 [.agg [.snil 2]] false true 1, .row 1 [.agg [.sref 2 6 0 (l.length+1+1)]] false false 2, .row 2 (encSta s::l.map encSta) false true 3, .row 2 [.agg [.bool (!x.acc), .sref 3 5 0 (r.length+1)]] false false 4, .row 3 (encArc a::r.map encArc) false true 5, .row 2 (encSta s::(l.map encSta++[.agg [.bool (!x.acc), .sref 3 5 0 (r.length+1)]])) false false 3]) (q:=5) rfl rfl (s::l) (!x.acc)
          rw[hnx] at e1
          refine (head_thaw (r:=6) rfl rfl (thaw_row1 (ks:=[5]) rfl ⟨_, rfl⟩ e1.1 e1.2.1 (thaw_all _))).trans ?_
          rw[rnS, hT, rnO_snoc]
          exact norm_by (R:=[[], [], [6], [], [5], [], []]) (ks:=[0, 1, 2, 6]) (dr:=[(5, (encArc a::r.map encArc).length)]) rfl rfl rfl rfl rfl rfl rfl
    · have hke:k=m.length:=by omega
      subst hke
      have hl0:=valid_len hv
      cases hs:m with
      | nil=>rw[hs] at hl0; simp at hl0
      | cons s l=>
        have hT:(m.take m.length).map ntSta=ntSta s::l.map ntSta:=by rw[List.take_length, hs]; rfl
        have e2:((l.map ntSta).map encSta).take l.length=(l.map ntSta).map encSta:=List.take_of_length_le (by rw[List.length_map, List.length_map]; exact Nat.le_refl _)
        rw[←hs]
        refine ⟨?_⟩
        rw[rnS, hT, rnO, hs]
        (repeat' first|simp (disch:=omega) only[go_sem, List.length_map, List.map_cons, List.length_cons, e2]|(apply spl<;>intro h<;>try simp (disch:=omega) only[go_sem, List.length_map, List.map_cons, List.length_cons, e2, h]))
        refine hQ' _ _ ?_
        (repeat' first|simp (disch:=omega) only[go_sem, List.length_map, List.map_cons, List.length_cons, e2]|(apply spl<;>intro h<;>try simp (disch:=omega) only[go_sem, List.length_map, List.map_cons, List.length_cons, e2, h]))
        all_goals first | omega | rfl | (rw[hs]; rfl)
theorem numG_small {m:List Sta} {at':List Nat} {nx:List (List Nat)} {c:List Nat} (ha:at'.length<2^30) : ∀ (f i:Nat) (o:List Nat) (out:List Sta), (∀ s, s∈out→s.arcs.length<2^30)→(numG m at' nx c f i o out).length≤out.length+f∧∀ s, s∈numG m at' nx c f i o out→s.arcs.length<2^30
  | 0, _, _, out, h=>⟨Nat.le_refl _, h⟩
  | f+1, i, o, out, h=>by
    by_cases hlt:i<o.length
    · rw[numG_go hlt]
      obtain ⟨h1, h2⟩:=numG_small ha f (i+1) (ordGo c o (nx.getD (o.getD i 0) [])).2 (out++[⟨accM m (o.getD i 0), arcK at' (ordGo c o (nx.getD (o.getD i 0) [])).1 at'.length⟩]) (fun s hs=>by
        rcases List.mem_append.1 hs with hs | hs
        · exact h s hs
        · rw[List.mem_singleton.1 hs]
          exact Nat.lt_of_le_of_lt (arcK_len _ _ _) ha)
      refine ⟨?_, h2⟩
      rw[List.length_append, List.length_singleton] at h1
      omega
    · rw[numG_end hlt]
      exact ⟨by omega, h⟩
theorem small_least (m:List Sta) (hm:m.length≤80):SmallM (LeastM m):=by
  unfold LeastM
  split
  · obtain ⟨h1, h2⟩:=numG_small (m:=m) (at':=byM m) (nx:=nxM m) (c:=clsM m) (by have:=byM_len m; omega) (m.length+1) 0 [0] [] (fun s h=>by cases h)
    refine ⟨?_, h2⟩
    show (numG m (byM m) (nxM m) (clsM m) (m.length+1) 0 [0] []).length<_
    simp only[List.length_nil] at h1
    omega
  · exact ⟨by simp, fun s h=>by cases h⟩
theorem small_not {m:List Sta} (h:SmallM m):SmallM (NotM m):=by
  unfold NotM
  split
  · refine ⟨by rw[List.length_map]; exact h.1, fun s hs=>?_⟩
    obtain ⟨x, hx, rfl⟩:=List.mem_map.1 hs
    exact h.2 x hx
  · exact ⟨by simp, fun s h=>by cases h⟩
theorem sameM_self (a:List Sta):sameM a a=true:=(sameM_eq a a).2 rfl
/-- The law AutomatonLeasts. -/
theorem leasts_run (hw:PRun CB 318 [] (.bool true)) (m:List Sta) (h:SmallM m):PRun CB 314 [encMa m] (.bool true):=by
  obtain ⟨b, hf, hb⟩:=few_run m 60 h.1
  refine prun_of ac314 rfl ?_
  cases b with
  | false=>
    unfold encMa at hf ⊢
    (repeat' first|simp (disch:=omega) only[go_sem, ac314, enter, List.length_map]|refine pure_of _ (hf) ?_|refine pure_of _ (hw) ?_|(apply spl<;>intro h<;>try simp (disch:=omega) only[go_sem, ac314, enter, List.length_map , h]))
    all_goals first | omega | skip
  | true=>
    obtain ⟨h60, _⟩:=hb rfl
    have h1:=Not_run m h
    have h2:=refNot_run m h
    have h3:=Least_run m h (by omega)
    have h4:=refLeastM_run m h (by omega)
    have h5:=same_run (NotM m) (NotM m) (small_not h) (small_not h)
    have h6:=same_run (LeastM m) (LeastM m) (small_least m (by omega)) (small_least m (by omega))
    rw[sameM_self] at h5 h6
    obtain ⟨N, hN⟩ : ∃ N, NotM m=N:=⟨_, rfl⟩
    obtain ⟨L, hL⟩ : ∃ L, LeastM m=L:=⟨_, rfl⟩
    rw[hN] at h1 h2 h5
    rw[hL] at h3 h4 h6
    unfold encMa at *
    (repeat' first|simp (disch:=omega) only[go_sem, ac314, enter, List.length_map]|refine pure_of _ (hf) ?_|refine pure_of _ (hw) ?_|refine pure_of _ (h1) ?_|refine pure_of _ (h2) ?_|refine pure_of _ (h3) ?_|refine pure_of _ (h4) ?_|refine pure_of _ (h5) ?_|refine pure_of _ (h6) ?_|(apply spl<;>intro h<;>try simp (disch:=omega) only[go_sem, ac314, enter, List.length_map , h]))
    all_goals first | omega | skip
end Ago
