/- Pairs: the reference's pairs. -/
import Derived.Test.YtgfkbpjgfdgfbaaGreatDoorRunP
import Derived.Test.YtgfkbpjgfdgfbaaGreatDoorRunR
import Derived.Test.YtgfkbpjgfdgfbaaGreatDoorRunK
set_option linter.unusedSimpArgs false
set_option linter.unusedVariables false
set_option maxRecDepth 100000
set_option maxHeartbeats 16000000
namespace Ago
open Go (IntKind)
theorem prO_snoc (l:List Sta) (s:Sta):prO (l++[s])=[.row 1 [.agg [.sref 2 5 0 (l.length+1)]] false false 4, .row 2 (l.map encSta++[encSta s]) false true 5]:=by
  cases l with
  | nil=>rfl
  | cons x l=>simp [prO]
def pairO (R:Option (List Sta)):List Sta:=match R with
  | some r=>leastM r
  | none=>[]
def pairE (R:Option (List Sta)):Int:=match R with
  | some _=>0
  | none=>32
theorem refPairs_run (a b:List Sta) (ha:SmallM a) (hb:SmallM b) (hva:validM a=true) (hvb:validM b=true) (op:Int) (K:Bool→Bool→Bool) (hop : ∀ u v:Bool, PRun CB 393 [.int .i64 op, .bool u, .bool v] (.bool (K u v))) :
    PRun CB 368 [.int .i64 op, encMa a, encMa b] (.tup [encMa (pairO (pairM a b (by2 a b) K)), .int .i64 (pairE (pairM a b (by2 a b) K))]):=by
  obtain ⟨hz, hsrt, hal, hab⟩:=by2_ok (b:=b) hva
  have hct:=cutsL_run [a, b] (by simp only[List.length_cons, List.length_nil]; omega) (fun m hm=>by
    rcases List.mem_cons.1 hm with rfl | hm
    · exact ha
    · rw[List.mem_singleton.1 hm]
      exact hb) (fun m hm=>by
    rcases List.mem_cons.1 hm with rfl | hm
    · exact los_ok hva
    · rw[List.mem_singleton.1 hm]
      exact los_ok hvb)
  rw[show encB (stN (losL [a, b]) 256) = .tsl 1 ((by2 a b).map encN) from rfl, show [a, b].map encMa=[encMa a, encMa b] from rfl] at hct
  have hI:=PairI.init (at':=by2 a b) (K:=K) hva hvb
  have hvR:=fun r (hr:pairM a b (by2 a b) K=some r)=>pairM_valid hva hvb hz hsrt hab hr
  obtain ⟨R, hR⟩ : ∃ R, pairM a b (by2 a b) K=R:=⟨_, rfl⟩
  obtain ⟨at', hat⟩ : ∃ at', by2 a b=at':=⟨_, rfl⟩
  rw[hR] at hI hvR ⊢
  rw[hat] at hI hct hz hsrt hal hab
  have hacs:=fun (tg:List Nat) (ht:tg.length=at'.length)=>refArcs_run at' tg hal ht hab
  rw[show encB at' = .tsl 1 (at'.map encN) from rfl] at hacs
  have hrd5:=fun (Q:Ex→St→Prop) (i:Nat) (p:Nat × Nat) (hp:p.1<a.length∧p.2<b.length) (o:List (Nat × Nat)) (hol:o.length≤1024) (k c:Nat) (hck:at'[k]?=some c)=>pr_round5 (Q:=Q) a b ha hb hva hvb at' hal hab op i p hp o hol k c hck
  have hrd6:=fun (Q:Ex→St→Prop) (i:Nat) (p:Nat × Nat) (hp:p.1<a.length∧p.2<b.length) (o:List (Nat × Nat)) (hol:o.length≤1024) (s0:Sta) (ls:List Sta) (hls:ls.length≤1024) (k c:Nat) (hck:at'[k]?=some c)=>pr_round6 (Q:=Q) a b ha hb hva hvb at' hal hab op i p hp o hol s0 ls hls k c hck
  simp only[AFn.lp, ac368, ACode.loopsOf, List.cons_append, List.append_nil, List.nil_append, List.getD_cons_succ, List.getD_cons_zero] at hrd5 hrd6
  refine prun_of ac368 rfl ?_
  unfold encMa at hct ⊢
  (repeat' first|simp (disch:=omega) only[go_sem, ac368, enter, List.length_map, markFrom, Blk.mark, List.contains_cons, List.contains_nil, Bool.or_false, Bool.or_true]|refine pure_of _ (hct) ?_|(apply spl<;>intro h<;>try simp (disch:=omega) only[go_sem, ac368, enter, List.length_map, markFrom, Blk.mark, List.contains_cons, List.contains_nil, Bool.or_false, Bool.or_true , h]))
  all_goals try omega
  refine loop_hdH (α:=Nat × List (Nat × Nat) × List Sta) (prS a b at' op) (fun x=>PairI a b at' K R x.1 x.2.1 x.2.2) (fun x=>1025-x.1) (0, [(0, 0)], []) (by
    rw[prS, prH, prO_nil]
    rfl) hI ?_
  intro Q' hQ' x hIx
  obtain ⟨i, o, out⟩:=x
  have hlen:=hIx.len
  have hle:=hIx.le
  have hmx:=hIx.max
  dsimp only at hIx hlen hle hmx
  by_cases hlt:i<o.length
  · obtain ⟨p, hp⟩:=exAt hlt
    have hp2:((o.map r2).map encB)[i]?=some (.tsl 1 [.int .i64 p.1, .int .i64 p.2]):=by
      rw[List.map_map, List.getElem?_map, hp]
      rfl
    have hpl:=hIx.low p (List.mem_of_getElem? hp)
    obtain ⟨x, hx⟩:=exAt hpl.1
    obtain ⟨y, hy⟩:=exAt hpl.2
    have hx2:(a.map encSta)[p.1]?=some (.agg [.bool x.acc, .tsl 3 (x.arcs.map encArc)]):=mget hx
    have hy2:(b.map encSta)[p.2]?=some (.agg [.bool y.acc, .tsl 3 (y.arcs.map encArc)]):=mget hy
    have hopx:=hop x.acc y.acc
    have hns:=numGo_len (toP a b at' p) o
    rw[show (toP a b at' p).length=at'.length by unfold toP; rw[List.length_map]] at hns
    have htk:(toP a b at' p).take at'.length=toP a b at' p:=List.take_of_length_le (by unfold toP; rw[List.length_map]; exact Nat.le_refl _)
    have hapos:0<at'.length:=(List.getElem?_eq_some_iff.1 hz).1
    have hst:=fun hl=>hIx.step hva hvb hz hsrt hab hp hl
    have hov:=fun hl=>hIx.over hp hl
    rw[show stP a b at' K p (numGo o (toP a b at' p)).1=⟨K x.acc y.acc, arcK at' (numGo o (toP a b at' p)).1 at'.length⟩ by unfold stP accM; rw[hx, hy]] at hst
    cases out with
    | nil=>
      have hll:i=0:=hlen.symm
      refine ⟨?_⟩
      rw[prS, prH, prO_nil]
      (repeat' first|simp (disch:=omega) only[go_sem, hp2, List.length_map, List.map_cons, List.length_cons]|(apply spl<;>intro h<;>try simp (disch:=omega) only[go_sem, hp2, List.length_map, List.map_cons, List.length_cons, h]))
      all_goals try omega
      refine loop_hdH (α:=Nat) (prT a b at' op i p o [] 5) (fun k=>k≤at'.length) (fun k=>at'.length-k) 0 (by
        rw[prT, List.take_zero, numGo_nil]
        dsimp only
        rw[prH, prO_nil, r11T, r11V]
        refine (head_thaw (r:=3) rfl rfl (thaw_flat rfl)).trans ?_
        exact norm_by0 [[], [], [], [], []] [0, 1, 2, 3, 4] rfl rfl rfl rfl rfl rfl) (Nat.zero_le _) ?_
      intro Q2 hQ2 k hk
      by_cases hkt:k<at'.length
      · obtain ⟨c, hc⟩:=exAt hkt
        exact ⟨hrd5 Q2 i p hpl o hmx k c hc⟩
      · have hke:k=at'.length:=by omega
        subst hke
        refine ⟨?_⟩
        rw[prT, htk]
        obtain ⟨⟨ns, o'⟩, hr⟩ : ∃ r, numGo o (toP a b at' p)=r:=⟨_, rfl⟩
        rw[hr] at hst hov hns ⊢
        dsimp only at hst hov hns ⊢
        cases ns with
        | nil=>simp at hns; omega
        | cons n0 nt=>
          have hns2:nt.length+1=at'.length:=hns
          have har:=hacs (n0::nt) hns
          have hnt:((n0::nt).map encN).take (n0::nt).length=(n0::nt).map encN:=List.take_of_length_le (by rw[List.length_map]; exact Nat.le_refl _)
          obtain ⟨A, hA⟩ : ∃ A, arcK at' (n0::nt) at'.length=A:=⟨_, rfl⟩
          rw[hA] at hst har
          rw[show encB (n0::nt) = .tsl 1 (encN n0::nt.map encN) from rfl] at har
          rw[List.map_cons, List.length_cons] at hnt
          rw[prH, prO_nil, r11T, r11V]
          by_cases hl:o'.length≤1024
          · have hst2:=hst hl
            have hln : ¬ (1024:Int)<o'.length:=by omega
            (repeat' first|simp (disch:=omega) only[go_sem, List.length_map, List.map_cons, List.length_cons]|(apply spl<;>intro h<;>try simp (disch:=omega) only[go_sem, List.length_map, List.map_cons, List.length_cons, h]))
            all_goals try omega
            refine hQ2 _ _ ?_
            (repeat' first|simp (disch:=omega) only[go_sem, List.length_map, List.map_cons, List.length_cons, hx2, hy2, hnt, hln, markFrom, Blk.mark, List.contains_cons, List.contains_nil, Bool.or_false, Bool.or_true]|refine pure_of _ (hopx) ?_|refine pure_of _ (har) ?_|(apply spl<;>intro h<;>try simp (disch:=omega) only[go_sem, List.length_map, List.map_cons, List.length_cons, hx2, hy2, hnt, hln, markFrom, Blk.mark, List.contains_cons, List.contains_nil, Bool.or_false, Bool.or_true , h]))
            all_goals try omega
            refine ⟨(i+1, o', []++[⟨K x.acc y.acc, A⟩]), ?_, hst2, by dsimp only; omega⟩
            rw[prS, prH]
            dsimp only
            rw[prO_snoc]
            refine (head_thaw (r:=3) rfl rfl (thaw_flat rfl)).trans ?_
            exact norm_by (R:=[[], [], [], [], [7], [], [], []]) (ks:=[0, 1, 2, 3, 4, 7]) (dr:=[(5, (encN n0::nt.map encN).length)]) rfl rfl rfl rfl rfl rfl rfl
          · have hRn:=hov hl
            subst hRn
            have hln:(1024:Int)<o'.length:=by omega
            (repeat' first|simp (disch:=omega) only[go_sem, List.length_map, List.map_cons, List.length_cons]|(apply spl<;>intro h<;>try simp (disch:=omega) only[go_sem, List.length_map, List.map_cons, List.length_cons, h]))
            all_goals try omega
            refine hQ2 _ _ ?_
            (repeat' first|simp (disch:=omega) only[go_sem, List.length_map, List.map_cons, List.length_cons, hln]|(apply spl<;>intro h<;>try simp (disch:=omega) only[go_sem, List.length_map, List.map_cons, List.length_cons, hln, h]))
            all_goals try omega
            refine hQ' _ _ ?_
            (repeat' first|simp (disch:=omega) only[go_sem, List.length_map, List.map_cons, List.length_cons]|(apply spl<;>intro h<;>try simp (disch:=omega) only[go_sem, List.length_map, List.map_cons, List.length_cons, h]))
            all_goals first | omega | rfl
    | cons s0 ls=>
      have hll:ls.length+1=i:=by simpa using hlen
      refine ⟨?_⟩
      rw[prS, prH, prO_cons]
      (repeat' first|simp (disch:=omega) only[go_sem, hp2, List.length_map, List.map_cons, List.length_cons]|(apply spl<;>intro h<;>try simp (disch:=omega) only[go_sem, hp2, List.length_map, List.map_cons, List.length_cons, h]))
      all_goals try omega
      refine loop_hdH (α:=Nat) (prT a b at' op i p o (s0::ls) 6) (fun k=>k≤at'.length) (fun k=>at'.length-k) 0 (by
        rw[prT, List.take_zero, numGo_nil]
        dsimp only
        rw[prH, prO_cons, r11T, r11V]
        refine (head_thaw (r:=3) rfl rfl (thaw_flat rfl)).trans ?_
        exact norm_by0 [[], [], [], [], [5], []] [0, 1, 2, 3, 4, 5] rfl rfl rfl rfl rfl rfl) (Nat.zero_le _) ?_
      intro Q2 hQ2 k hk
      by_cases hkt:k<at'.length
      · obtain ⟨c, hc⟩:=exAt hkt
        exact ⟨hrd6 Q2 i p hpl o hmx s0 ls (by simp only[List.length_cons] at hlen; omega) k c hc⟩
      · have hke:k=at'.length:=by omega
        subst hke
        refine ⟨?_⟩
        rw[prT, htk]
        obtain ⟨⟨ns, o'⟩, hr⟩ : ∃ r, numGo o (toP a b at' p)=r:=⟨_, rfl⟩
        rw[hr] at hst hov hns ⊢
        dsimp only at hst hov hns ⊢
        cases ns with
        | nil=>simp at hns; omega
        | cons n0 nt=>
          have hns2:nt.length+1=at'.length:=hns
          have har:=hacs (n0::nt) hns
          have hnt:((n0::nt).map encN).take (n0::nt).length=(n0::nt).map encN:=List.take_of_length_le (by rw[List.length_map]; exact Nat.le_refl _)
          obtain ⟨A, hA⟩ : ∃ A, arcK at' (n0::nt) at'.length=A:=⟨_, rfl⟩
          rw[hA] at hst har
          rw[show encB (n0::nt) = .tsl 1 (encN n0::nt.map encN) from rfl] at har
          rw[List.map_cons, List.length_cons] at hnt
          rw[prH, prO_cons, r11T, r11V]
          by_cases hl:o'.length≤1024
          · have hst2:=hst hl
            have hln : ¬ (1024:Int)<o'.length:=by omega
            (repeat' first|simp (disch:=omega) only[go_sem, List.length_map, List.map_cons, List.length_cons]|(apply spl<;>intro h<;>try simp (disch:=omega) only[go_sem, List.length_map, List.map_cons, List.length_cons, h]))
            all_goals try omega
            refine hQ2 _ _ ?_
            (repeat' first|simp (disch:=omega) only[go_sem, List.length_map, List.map_cons, List.length_cons, hx2, hy2, hnt, hln, markFrom, Blk.mark, List.contains_cons, List.contains_nil, Bool.or_false, Bool.or_true]|refine pure_of _ (hopx) ?_|refine pure_of _ (har) ?_|(apply spl<;>intro h<;>try simp (disch:=omega) only[go_sem, List.length_map, List.map_cons, List.length_cons, hx2, hy2, hnt, hln, markFrom, Blk.mark, List.contains_cons, List.contains_nil, Bool.or_false, Bool.or_true , h]))
            all_goals try omega
            refine ⟨(i+1, o', (s0::ls)++[⟨K x.acc y.acc, A⟩]), ?_, hst2, by dsimp only; omega⟩
            rw[prS, prH]
            dsimp only
            rw[prO_snoc]
            refine (head_thaw (r:=3) rfl rfl (thaw_flat rfl)).trans ?_
            exact norm_by (R:=[[], [], [], [], [8], [], [], [], []]) (ks:=[0, 1, 2, 3, 4, 8]) (dr:=[(6, (encN n0::nt.map encN).length)]) rfl rfl rfl rfl rfl rfl rfl
          · have hRn:=hov hl
            subst hRn
            have hln:(1024:Int)<o'.length:=by omega
            (repeat' first|simp (disch:=omega) only[go_sem, List.length_map, List.map_cons, List.length_cons]|(apply spl<;>intro h<;>try simp (disch:=omega) only[go_sem, List.length_map, List.map_cons, List.length_cons, h]))
            all_goals try omega
            refine hQ2 _ _ ?_
            (repeat' first|simp (disch:=omega) only[go_sem, List.length_map, List.map_cons, List.length_cons, hln]|(apply spl<;>intro h<;>try simp (disch:=omega) only[go_sem, List.length_map, List.map_cons, List.length_cons, hln, h]))
            all_goals try omega
            refine hQ' _ _ ?_
            (repeat' first|simp (disch:=omega) only[go_sem, List.length_map, List.map_cons, List.length_cons]|(apply spl<;>intro h<;>try simp (disch:=omega) only[go_sem, List.length_map, List.map_cons, List.length_cons, h]))
            all_goals first | omega | rfl
  · obtain ⟨hRo, hvo⟩:=hIx.done hlt
    subst hRo
    cases out with
    | nil=>
      have hi0:i=0:=hlen.symm
      have:=(List.getElem?_eq_some_iff.1 hIx.zero).1
      omega
    | cons s ls=>
      have e2:(ls.map encSta).take ls.length=ls.map encSta:=List.take_of_length_le (by rw[List.length_map]; exact Nat.le_refl _)
      have h2:=refLeast_run (s::ls) (small_valid hvo) hvo (by have:=len_valid hvo; omega) (los_ok hvo)
      rw[show pairO (some (s::ls))=leastM (s::ls) from rfl, show pairE (some (s::ls))=0 from rfl] at hQ'
      obtain ⟨L, hL⟩ : ∃ L, leastM (s::ls)=L:=⟨_, rfl⟩
      rw[hL] at h2 hQ'
      unfold encMa at h2
      rw[List.map_cons] at h2
      refine ⟨?_⟩
      rw[prS, prH, prO_cons]
      (repeat' first|simp (disch:=omega) only[go_sem, List.length_map, List.map_cons, List.length_cons]|(apply spl<;>intro h<;>try simp (disch:=omega) only[go_sem, List.length_map, List.map_cons, List.length_cons, h]))
      all_goals try omega
      refine hQ' _ _ ?_
      (repeat' first|simp (disch:=omega) only[go_sem, List.length_map, List.map_cons, List.length_cons, e2, markFrom, Blk.mark, List.contains_cons, List.contains_nil, Bool.or_false, Bool.or_true]|refine pure_of _ (h2) ?_|(apply spl<;>intro h<;>try simp (disch:=omega) only[go_sem, List.length_map, List.map_cons, List.length_cons, e2, markFrom, Blk.mark, List.contains_cons, List.contains_nil, Bool.or_false, Bool.or_true , h]))
      all_goals first | omega | rfl
end Ago
