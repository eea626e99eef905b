/- Pairs: the program's pairs. -/
import Derived.Test.YtgfkbpjgfdgfbaaGreatDoorRunL
import Derived.Test.YtgfkbpjgfdgfbaaGreatDoorRunM
import Derived.Test.YtgfkbpjgfdgfbaaGreatDoorRunH
import Derived.Test.YtgfkbpjgfdgfbaaGreatDoorRunR
import Derived.Test.YtgfkbpjgfdgfbaaGreatDoorMachE
import Derived.Test.YtgfkbpjgfdgfbaaGreatDoorRunF
set_option linter.unusedSimpArgs false
set_option linter.unusedVariables false
set_option maxRecDepth 100000
set_option maxHeartbeats 16000000
namespace Ago
open Go (IntKind)
section
variable {R:Nat→List AV→Heap→AV→Heap→Prop} {PR:Nat→List AV→AV→Prop}
def allN (R:Nat→List AV→Heap→AV→Heap→Prop) (PR:Nat→List AV→AV→Prop) (s s':St) (ls:List (List AOper)):Prop:=∀ l, l∈ls→awOps R PR l (fun t=>t=s') s
theorem allN_nil {s s':St}:allN R PR s s' []:=fun _ h=>by cases h
theorem allN_cons {s s':St} {l:List AOper} {ls:List (List AOper)} (h : @withStI s ⟨awOps R PR l fun t=>t=s'⟩) (h2:allN R PR s s' ls):allN R PR s s' (l::ls):=fun x hx=>by
  unfold withStI at h
  rcases List.mem_cons.1 hx with rfl | hx
  · exact h
  · exact h2 x hx
theorem drawN_of {k:Nat} {l:List AOper} {ls:List (List AOper)} {Q:Ex→St→Prop} {s:St} (s':St) (h:allN R PR (s.keep k) s' (l::ls)) (h3 : @withStI { s' with rb:=0 } ⟨Q .normal⟩):aw R PR (.draw k (l::ls)) Q s:=by
  unfold withStI at h3
  exact ⟨s', by simp, h, h3⟩
end
def outM (r:Option (List Sta)):List Sta:=r.getD []
theorem pairs_run (a b:List Sta) (ha:SmallM a) (hb:SmallM b) (hva:validM a=true) (hvb:validM b=true) (kf:Nat) (K:Bool→Bool→Bool) (hK:Keeps kf K) :
    PRun CB 367 [encMa a, encMa b, .fn kf []] (.tup [encMa (outM (pairM a b (by2 a b) K)), .bool (pairM a b (by2 a b) K).isSome]):=by
  obtain ⟨hz, hsrt, hal, hab⟩:=by2_ok (b:=b) hva
  have hst:=startsL_run [a, b] (by simp only[List.length_cons, List.length_nil]; omega) (fun m hm=>by
    rcases List.mem_cons.1 hm with rfl | hm
    · exact ha
    · rw[List.mem_singleton.1 hm]
      exact hb) (fun m hm=>by
    rcases List.mem_cons.1 hm with rfl | hm
    · exact los_ok hva
    · rw[List.mem_singleton.1 hm]
      exact los_ok hvb)
  rw[show encB (stN (losL [a, b]) 256) = .tsl 1 ((by2 a b).map encN) from rfl, show [a, b].map encMa=[encMa a, encMa b] from rfl] at hst
  have hI:=PairI.init (at':=by2 a b) (K:=K) hva hvb
  obtain ⟨R, hR⟩ : ∃ R, pairM a b (by2 a b) K=R:=⟨_, rfl⟩
  obtain ⟨at', hat⟩ : ∃ at', by2 a b=at':=⟨_, rfl⟩
  rw[hR] at hI ⊢
  rw[hat] at hI hst hz hsrt hal hab
  have hrd6:=fun (Q:Ex→St→Prop) (i:Nat) (p:Nat × Nat) (hp:p.1<a.length∧p.2<b.length) (o:List (Nat × Nat)) (acc:Bool) (k c:Nat) (hck:at'[k]?=some c)=>pa_round6 (Q:=Q) a b ha hb hva hvb at' hal hab kf i p hp o acc k c hck
  have hrd7:=fun (Q:Ex→St→Prop) (i:Nat) (p:Nat × Nat) (hp:p.1<a.length∧p.2<b.length) (o:List (Nat × Nat)) (s:Sta) (ls:List Sta) (hls:ls.length<2^20) (acc:Bool) (k c:Nat) (hck:at'[k]?=some c)=>pa_round7 (Q:=Q) a b ha hb hva hvb at' hal hab kf i p hp o s ls hls acc k c hck
  simp only[AFn.lp, ac367, ACode.loopsOf, List.cons_append, List.append_nil, List.nil_append, List.getD_cons_succ, List.getD_cons_zero] at hrd6 hrd7
  have hch : ∀ u v:Int, chunk 1 2 [AV.int .i64 u, AV.int .i64 v]=[AV.int .i64 u, AV.int .i64 v]:=fun _ _=>rfl
  have hfl : ∀ u v:Int, flat [AV.int .i64 u, AV.int .i64 v]=[AV.int .i64 u, AV.int .i64 v]:=fun _ _=>rfl
  refine prun_of ac367 rfl ?_
  unfold encMa at hst ⊢
  have hfk:findKey (.many [.int, .int]) (.agg [.int .i64 0, .int .i64 0]) [] 0=some none:=rfl
  (repeat' first|simp (disch:=omega) only[go_sem, ac367, enter, List.length_map, hch, hfl, hfk, markFrom, Blk.mark, List.contains_cons, List.contains_nil, Bool.or_false, Bool.or_true]|refine pure_of _ (hst) ?_|(apply spl<;>intro h<;>try simp (disch:=omega) only[go_sem, ac367, enter, List.length_map, hch, hfl, hfk, markFrom, Blk.mark, List.contains_cons, List.contains_nil, Bool.or_false, Bool.or_true , h]))
  all_goals try omega
  refine loop_hdH (α:=Nat × List (Nat × Nat) × List Sta) (paS a b at' kf) (fun x=>PairI a b at' K R x.1 x.2.1 x.2.2) (fun x=>1025-x.1) (0, [(0, 0)], []) (by
    rw[paS, paH, paO_nil]
    rfl) hI ?_
  intro Q' hQ' x hIx
  obtain ⟨i, o, out⟩:=x
  have hlen:=hIx.len
  have hle:=hIx.le
  have hmx:=hIx.max
  dsimp only at hIx hlen hle hmx
  by_cases hlt:i<o.length
  · obtain ⟨p, hp⟩:=exAt hlt
    have hp2:(o.map encP)[i]?=some (.agg [.int .i64 p.1, .int .i64 p.2]):=mget hp
    have hpl:=hIx.low p (List.mem_of_getElem? hp)
    obtain ⟨x, hx⟩:=exAt hpl.1
    obtain ⟨y, hy⟩:=exAt hpl.2
    have hx2:(a.map encSta)[p.1]?=some (.agg [.bool x.acc, .tsl 3 (x.arcs.map encArc)]):=mget hx
    have hy2:(b.map encSta)[p.2]?=some (.agg [.bool y.acc, .tsl 3 (y.arcs.map encArc)]):=mget hy
    have hMR:(Blk.map (nmE (o.map encP))).refs=[]:=nmE_refs (still_prs _)
    have hMN : ∀ f g, Blk.ren f g (.map (nmE (o.map encP))) = .map (nmE (o.map encP)):=nmE_ren (still_prs _)
    have hpos:0<at'.length:=(List.getElem?_eq_some_iff.1 hz).1
    have hover : ∀ (p:Nat × Nat), o[i]?=some p→∀ k c, at'[k]?=some c→¬ (nxP a b p c∈(numGo o ((toP a b at' p).take k)).2∨(numGo o ((toP a b at' p).take k)).2.length<1024)→R=none:=fun p hp k c hck hov=>by
      refine hIx.over hp ?_
      rw[not_or] at hov
      have hT:(toP a b at' p).take (k+1)=(toP a b at' p).take k++[nxP a b p c]:=by
        unfold toP
        rw[List.take_add_one, List.getElem?_map, hck]
        rfl
      have h1:=numGo_snoc (nxP a b p c) ((toP a b at' p).take k) o
      rw[←hT, if_neg hov.1] at h1
      have h2:=numGo_cut (toP a b at' p) (k+1) o
      rw[h1] at h2
      simp only[List.length_append, List.length_singleton] at h2
      omega
    cases out with
    | nil=>
      have hi0:i=0:=hlen.symm
      subst hi0
      have hpz:p.1=0∧p.2=0:=by
        have:=hIx.zero
        rw[hp] at this
        cases this
        exact ⟨rfl, rfl⟩
      refine ⟨?_⟩
      rw[paS, paH, paO_nil]
      (repeat' first|simp (disch:=omega) only[go_sem, hp2, hch, hfl, List.length_map, List.map_cons, List.length_cons]|(apply spl<;>intro h<;>try simp (disch:=omega) only[go_sem, hp2, hch, hfl, List.length_map, List.map_cons, List.length_cons, h]))
      all_goals try first | omega | (simp only[Bool.and_eq_true, beq_iff_eq] at h; omega)
      refine drawN_of ?s6 ?g61 ?g62
      rotate_left
      case g61=>
        repeat' first | exact allN_nil | refine allN_cons ?_ ?_
        all_goals
          (repeat' first|simp (disch:=omega) only[go_sem, keep_mk, hx2, hy2, hch, hfl, List.length_map, List.map_cons, List.length_cons]|(apply spl<;>intro h<;>try simp (disch:=omega) only[go_sem, keep_mk, hx2, hy2, hch, hfl, List.length_map, List.map_cons, List.length_cons, h]))
          all_goals try omega
          refine call_of _ _ (hK _ (cl_of (n:=8) rfl (by repeat' first | exact all_nil | (refine all_cons ?_ ?_) | exact clb_flat (by decide) | exact clb_map (still_prs _) | exact clb_box1 (by decide) (by decide) | exact clb_box2 (by decide) (by decide) | exact clb_one (by decide) (by decide) | exact clb_gone | exact clb_resv)) x.acc y.acc) ?_
          (repeat' first|simp (disch:=omega) only[go_sem, hx2, hy2, hch, hfl, List.length_map, List.map_cons, List.length_cons]|(apply spl<;>intro h<;>try simp (disch:=omega) only[go_sem, hx2, hy2, hch, hfl, List.length_map, List.map_cons, List.length_cons, h]))
          all_goals first | rfl | omega
      case g62=>
        (repeat' first|simp (disch:=omega) only[go_sem, hx2, hy2, hch, hfl, List.length_map, List.map_cons, List.length_cons]|(apply spl<;>intro h<;>try simp (disch:=omega) only[go_sem, hx2, hy2, hch, hfl, List.length_map, List.map_cons, List.length_cons, h]))
        all_goals try omega
        refine loop_ofH (α:=Nat) (paT a b at' kf 0 p o [] 6 (K x.acc y.acc)) (fun k=>k≤at'.length∧(numGo o ((toP a b at' p).take k)).2.length≤1024) (fun k=>at'.length-k) 0 (by
          refine (norm_by0 [[], [], [], [], [], [], [], []] [0, 1, 2, 3, 4, 5, 6, 7] (by simp only[List.map_cons, List.map_nil, List.cons_append, List.nil_append, hMR]; rfl) rfl rfl rfl rfl ?_)
          simp only[List.map_cons, List.map_nil, List.cons_append, List.nil_append, List.getD_eq_getElem?_getD, List.getElem?_cons_zero, List.getElem?_cons_succ, Option.getD_some, hMN]
          rfl) ⟨Nat.zero_le _, hmx⟩ ?_
        intro Q2 hQ2 k hk
        by_cases hkt:k<at'.length
        · obtain ⟨c, hck⟩:=exAt hkt
          by_cases hov:nxP a b p c∈(numGo o ((toP a b at' p).take k)).2∨(numGo o ((toP a b at' p).take k)).2.length<1024
          · exact ⟨hrd6 Q2 0 p hpl o (K x.acc y.acc) k c hck hk.2 hov⟩
          · have hRn:R=none:=hover p hp k c hck hov
            have hc256:=hab c (List.mem_of_getElem? hck)
            have hc2:(at'.map encN)[k]?=some (.int .i64 c):=mget hck
            have hsa:=step_run a ha p.1 x hx c
            have hsb:=step_run b hb p.2 y hy c
            rw[step_next _ 0 (valid_arcs hva (List.mem_of_getElem? hx)) (by omega)] at hsa
            rw[step_next _ 0 (valid_arcs hvb (List.mem_of_getElem? hy)) (by omega)] at hsb
            have hna:=(next_lt hva (List.mem_of_getElem? hx) hc256).1
            have hnb:=(next_lt hvb (List.mem_of_getElem? hy) hc256).1
            have hca:nextGo (c:Nat) x.arcs=(nxP a b p c).1:=by
              show _=((nextA a p.1 c:Nat):Int)
              rw[nextA_at hx]
              omega
            have hcb:nextGo (c:Nat) y.arcs=(nxP a b p c).2:=by
              show _=((nextA b p.2 c:Nat):Int)
              rw[nextA_at hy]
              omega
            rw[hca] at hsa
            rw[hcb] at hsb
            unfold encMa at hsa hsb
            obtain ⟨t, ht⟩ : ∃ t, nxP a b p c=t:=⟨_, rfl⟩
            rw[ht] at hsa hsb hov
            subst hRn
            rw[not_or] at hov
            refine ⟨?_⟩
            rw[paT]
            obtain ⟨⟨ns, o'⟩, hr⟩ : ∃ r, numGo o ((toP a b at' p).take k)=r:=⟨_, rfl⟩
            rw[hr] at hov ⊢
            dsimp only at hov ⊢
            obtain ⟨ho1, ho2⟩:=hov
            obtain ⟨A, hA⟩ : ∃ A, arcK at' ns k=A:=⟨_, rfl⟩
            have hf:findKey (.many [.int, .int]) (.agg [.int .i64 t.1, .int .i64 t.2]) (nmE (o'.map encP)) 0=_:=find_pr t o' 0 0
            rw[if_neg ho1] at hf
            rw[hA, paH, paO_nil]
            rcases last_cases A with rfl | ⟨az, e, rfl⟩
            · rw[nuA_nil]
              (repeat' first|simp (disch:=omega) only[go_sem, List.length_map, hc2, hf, hch, hfl, List.take_succ_cons, List.take_zero, List.map_cons, List.length_cons]|refine pure_of _ (hsa) ?_|refine pure_of _ (hsb) ?_|(apply spl<;>intro h<;>try simp (disch:=omega) only[go_sem, List.length_map, hc2, hf, hch, hfl, List.take_succ_cons, List.take_zero, List.map_cons, List.length_cons , h]))
              all_goals try omega
              refine hQ2 _ _ ?_
              (repeat' first|simp (disch:=omega) only[go_sem, List.length_map, List.map_cons, List.length_cons]|(apply spl<;>intro h<;>try simp (disch:=omega) only[go_sem, List.length_map, List.map_cons, List.length_cons, h]))
              all_goals try omega
              refine hQ' _ _ ?_
              (repeat' first|simp (disch:=omega) only[go_sem, List.length_map, List.map_cons, List.length_cons]|(apply spl<;>intro h<;>try simp (disch:=omega) only[go_sem, List.length_map, List.map_cons, List.length_cons, h]))
              all_goals try omega
              refine drawN_of ?so6a ?go6a1 ?go6a2
              rotate_left
              case go6a1=>
                repeat' first | exact allN_nil | refine allN_cons ?_ ?_
                all_goals
                  (repeat' first|simp (disch:=omega) only[go_sem, keep_mk, List.length_map, List.map_cons, List.length_cons]|(apply spl<;>intro h<;>try simp (disch:=omega) only[go_sem, keep_mk, List.length_map, List.map_cons, List.length_cons, h]))
                  all_goals first | rfl | omega
              case go6a2=>
                (repeat' first|simp (disch:=omega) only[go_sem, List.length_map, List.map_cons, List.length_cons]|(apply spl<;>intro h<;>try simp (disch:=omega) only[go_sem, List.length_map, List.map_cons, List.length_cons, h]))
                all_goals first | omega | rfl
            · rw[nuA_snoc]
              (repeat' first|simp (disch:=omega) only[go_sem, List.length_map, hc2, hf, hch, hfl, List.take_succ_cons, List.take_zero, List.map_cons, List.length_cons]|refine pure_of _ (hsa) ?_|refine pure_of _ (hsb) ?_|(apply spl<;>intro h<;>try simp (disch:=omega) only[go_sem, List.length_map, hc2, hf, hch, hfl, List.take_succ_cons, List.take_zero, List.map_cons, List.length_cons , h]))
              all_goals try omega
              refine hQ2 _ _ ?_
              (repeat' first|simp (disch:=omega) only[go_sem, List.length_map, List.map_cons, List.length_cons]|(apply spl<;>intro h<;>try simp (disch:=omega) only[go_sem, List.length_map, List.map_cons, List.length_cons, h]))
              all_goals try omega
              refine hQ' _ _ ?_
              (repeat' first|simp (disch:=omega) only[go_sem, List.length_map, List.map_cons, List.length_cons]|(apply spl<;>intro h<;>try simp (disch:=omega) only[go_sem, List.length_map, List.map_cons, List.length_cons, h]))
              all_goals try omega
              refine drawN_of ?so6b ?go6b1 ?go6b2
              rotate_left
              case go6b1=>
                repeat' first | exact allN_nil | refine allN_cons ?_ ?_
                all_goals
                  (repeat' first|simp (disch:=omega) only[go_sem, keep_mk, List.length_map, List.map_cons, List.length_cons]|(apply spl<;>intro h<;>try simp (disch:=omega) only[go_sem, keep_mk, List.length_map, List.map_cons, List.length_cons, h]))
                  all_goals first | rfl | omega
              case go6b2=>
                (repeat' first|simp (disch:=omega) only[go_sem, List.length_map, List.map_cons, List.length_cons]|(apply spl<;>intro h<;>try simp (disch:=omega) only[go_sem, List.length_map, List.map_cons, List.length_cons, h]))
                all_goals first | omega | rfl
        · have hke:k=at'.length:=by have:=hk.1; omega
          subst hke
          have hk2:=hk.2
          rw[show (toP a b at' p).take at'.length=toP a b at' p from List.take_of_length_le (by unfold toP; rw[List.length_map]; exact Nat.le_refl _)] at hk2
          have hst2:=hIx.step hva hvb hz hsrt hab hp hk2
          rw[show stP a b at' K p (numGo o (toP a b at' p)).1=⟨K x.acc y.acc, arcK at' (numGo o (toP a b at' p)).1 at'.length⟩ by unfold stP accM; rw[hx, hy]] at hst2
          refine ⟨?_⟩
          rw[paT, show (toP a b at' p).take at'.length=toP a b at' p from List.take_of_length_le (by unfold toP; rw[List.length_map]; exact Nat.le_refl _)]
          obtain ⟨⟨ns, o'⟩, hr⟩ : ∃ r, numGo o (toP a b at' p)=r:=⟨_, rfl⟩
          rw[hr] at hst2 hk2 ⊢
          dsimp only at hst2 hk2 ⊢
          obtain ⟨az, e, hA⟩ : ∃ az e, arcK at' ns at'.length=az++[e]:=by
            obtain ⟨n, hn⟩ : ∃ n, at'.length=n+1:=⟨at'.length-1, by omega⟩
            rw[hn, arcK]
            exact arcF_snoc _ _ _ _
          have hKl:=arcK_len at' ns at'.length
          rw[hA] at hst2 hKl ⊢
          rw[List.length_append, List.length_singleton] at hKl
          have hMR2:(Blk.map (nmE (o'.map encP))).refs=[]:=nmE_refs (still_prs _)
          have hMN2 : ∀ f g, Blk.ren f g (.map (nmE (o'.map encP))) = .map (nmE (o'.map encP)):=nmE_ren (still_prs _)
          rw[nuA_snoc, paH, paO_nil]
          (repeat' first|simp (disch:=omega) only[go_sem, List.length_map, List.length_cons, List.map_cons]|(apply spl<;>intro h<;>try simp (disch:=omega) only[go_sem, List.length_map, List.length_cons, List.map_cons, h]))
          all_goals try omega
          refine hQ2 _ _ ?_
          (repeat' first|simp (disch:=omega) only[go_sem, List.length_map, List.length_cons, List.map_cons]|(apply spl<;>intro h<;>try simp (disch:=omega) only[go_sem, List.length_map, List.length_cons, List.map_cons, h]))
          all_goals try omega
          refine ⟨(0+1, o', []++[⟨K x.acc y.acc, az++[e]⟩]), ?_, hst2, by dsimp only; omega⟩
          refine (head_thaw (r:=10) rfl rfl (thaw_row1 (ks:=[8]) rfl ⟨_, rfl⟩ (thaw_stas (A:=az++[e]) (l:=az.length+1) rfl (by simp) [] (K x.acc y.acc)).1 (thaw_stas (A:=az++[e]) (l:=az.length+1) rfl (by simp) [] (K x.acc y.acc)).2.1 (thaw_all ([]++[⟨K x.acc y.acc, az++[e]⟩])))).trans ?_
          rw[paS, paH]
          dsimp only
          rw[paO_snoc]
          refine (norm_by (R:=[[], [], [], [], [], [10], [], [8], [], [8], []]) (ks:=[0, 1, 2, 3, 4, 5, 10]) (dr:=[(8, ((az++[e]).map encArc).length)]) (by simp only[markRO, markFrom, List.contains_cons, List.contains_nil, Bool.or_false, Bool.false_eq_true, if_false, if_true, Nat.reduceBEq, Nat.reduceAdd, Nat.zero_add, List.set_cons_zero, List.set_cons_succ, List.map_cons, List.map_nil, List.cons_append, List.nil_append, hMR2]; rfl) rfl rfl rfl rfl rfl ?_)
          simp only[roMark_cons]
          simp only[markRO, markFrom, List.contains_cons, List.contains_nil, Bool.or_false, Bool.false_eq_true, if_false, if_true, Nat.reduceBEq, Nat.reduceAdd, Nat.zero_add, List.set_cons_zero, List.set_cons_succ, roBy_map, List.map_cons, List.map_nil, List.cons_append, List.nil_append, List.getD_eq_getElem?_getD, List.getElem?_cons_zero, List.getElem?_cons_succ, Option.getD_some, hMN2]
          rfl
    | cons s ls=>
      have hls:ls.length+1=i:=by simpa using hlen
      have hpz : ¬ (p.1=0∧p.2=0):=fun hpp=>by
        obtain ⟨h1, h1'⟩:=List.getElem?_eq_some_iff.1 hp
        obtain ⟨h2, h2'⟩:=List.getElem?_eq_some_iff.1 hIx.zero
        have he:p=(0, 0):=Prod.ext (by simp only; omega) (by simp only; omega)
        have:=(List.getElem_inj hIx.nd).1 (h1'.trans (he.trans h2'.symm))
        omega
      refine ⟨?_⟩
      rw[paS, paH, paO_cons]
      (repeat' first|simp (disch:=omega) only[go_sem, hp2, hch, hfl, List.length_map, List.map_cons, List.length_cons]|(apply spl<;>intro h<;>try simp (disch:=omega) only[go_sem, hp2, hch, hfl, List.length_map, List.map_cons, List.length_cons, h]))
      all_goals try first | omega | (simp only[Bool.and_eq_true, beq_iff_eq] at h; omega)
      refine drawN_of ?s7 ?g71 ?g72
      rotate_left
      case g71=>
        repeat' first | exact allN_nil | refine allN_cons ?_ ?_
        all_goals
          (repeat' first|simp (disch:=omega) only[go_sem, keep_mk, hx2, hy2, hch, hfl, List.length_map, List.map_cons, List.length_cons]|(apply spl<;>intro h<;>try simp (disch:=omega) only[go_sem, keep_mk, hx2, hy2, hch, hfl, List.length_map, List.map_cons, List.length_cons, h]))
          all_goals try omega
          refine call_of _ _ (hK _ (cl_of (n:=9) rfl (by repeat' first | exact all_nil | (refine all_cons ?_ ?_) | exact clb_flat (by decide) | exact clb_map (still_prs _) | exact clb_box1 (by decide) (by decide) | exact clb_box2 (by decide) (by decide) | exact clb_one (by decide) (by decide) | exact clb_gone | exact clb_resv)) x.acc y.acc) ?_
          (repeat' first|simp (disch:=omega) only[go_sem, hx2, hy2, hch, hfl, List.length_map, List.map_cons, List.length_cons]|(apply spl<;>intro h<;>try simp (disch:=omega) only[go_sem, hx2, hy2, hch, hfl, List.length_map, List.map_cons, List.length_cons, h]))
          all_goals first | rfl | omega
      case g72=>
        (repeat' first|simp (disch:=omega) only[go_sem, hx2, hy2, hch, hfl, List.length_map, List.map_cons, List.length_cons]|(apply spl<;>intro h<;>try simp (disch:=omega) only[go_sem, hx2, hy2, hch, hfl, List.length_map, List.map_cons, List.length_cons, h]))
        all_goals try omega
        refine loop_ofH (α:=Nat) (paT a b at' kf i p o (s::ls) 7 (K x.acc y.acc)) (fun k=>k≤at'.length∧(numGo o ((toP a b at' p).take k)).2.length≤1024) (fun k=>at'.length-k) 0 (by
          refine (norm_by0 [[], [], [], [], [], [6], [], [], []] [0, 1, 2, 3, 4, 5, 6, 7, 8] (by simp only[List.map_cons, List.map_nil, List.cons_append, List.nil_append, hMR]; rfl) rfl rfl rfl rfl ?_)
          simp only[List.map_cons, List.map_nil, List.cons_append, List.nil_append, List.getD_eq_getElem?_getD, List.getElem?_cons_zero, List.getElem?_cons_succ, Option.getD_some, hMN]
          rfl) ⟨Nat.zero_le _, hmx⟩ ?_
        intro Q2 hQ2 k hk
        by_cases hkt:k<at'.length
        · obtain ⟨c, hck⟩:=exAt hkt
          by_cases hov:nxP a b p c∈(numGo o ((toP a b at' p).take k)).2∨(numGo o ((toP a b at' p).take k)).2.length<1024
          · exact ⟨hrd7 Q2 i p hpl o s ls (by simp at hlen; omega) (K x.acc y.acc) k c hck hk.2 hov⟩
          · have hRn:R=none:=hover p hp k c hck hov
            have hc256:=hab c (List.mem_of_getElem? hck)
            have hc2:(at'.map encN)[k]?=some (.int .i64 c):=mget hck
            have hsa:=step_run a ha p.1 x hx c
            have hsb:=step_run b hb p.2 y hy c
            rw[step_next _ 0 (valid_arcs hva (List.mem_of_getElem? hx)) (by omega)] at hsa
            rw[step_next _ 0 (valid_arcs hvb (List.mem_of_getElem? hy)) (by omega)] at hsb
            have hna:=(next_lt hva (List.mem_of_getElem? hx) hc256).1
            have hnb:=(next_lt hvb (List.mem_of_getElem? hy) hc256).1
            have hca:nextGo (c:Nat) x.arcs=(nxP a b p c).1:=by
              show _=((nextA a p.1 c:Nat):Int)
              rw[nextA_at hx]
              omega
            have hcb:nextGo (c:Nat) y.arcs=(nxP a b p c).2:=by
              show _=((nextA b p.2 c:Nat):Int)
              rw[nextA_at hy]
              omega
            rw[hca] at hsa
            rw[hcb] at hsb
            unfold encMa at hsa hsb
            obtain ⟨t, ht⟩ : ∃ t, nxP a b p c=t:=⟨_, rfl⟩
            rw[ht] at hsa hsb hov
            subst hRn
            rw[not_or] at hov
            refine ⟨?_⟩
            rw[paT]
            obtain ⟨⟨ns, o'⟩, hr⟩ : ∃ r, numGo o ((toP a b at' p).take k)=r:=⟨_, rfl⟩
            rw[hr] at hov ⊢
            dsimp only at hov ⊢
            obtain ⟨ho1, ho2⟩:=hov
            obtain ⟨A, hA⟩ : ∃ A, arcK at' ns k=A:=⟨_, rfl⟩
            have hf:findKey (.many [.int, .int]) (.agg [.int .i64 t.1, .int .i64 t.2]) (nmE (o'.map encP)) 0=_:=find_pr t o' 0 0
            rw[if_neg ho1] at hf
            rw[hA, paH, paO_cons]
            rcases last_cases A with rfl | ⟨az, e, rfl⟩
            · rw[nuA_nil]
              (repeat' first|simp (disch:=omega) only[go_sem, List.length_map, hc2, hf, hch, hfl, List.take_succ_cons, List.take_zero, List.map_cons, List.length_cons]|refine pure_of _ (hsa) ?_|refine pure_of _ (hsb) ?_|(apply spl<;>intro h<;>try simp (disch:=omega) only[go_sem, List.length_map, hc2, hf, hch, hfl, List.take_succ_cons, List.take_zero, List.map_cons, List.length_cons , h]))
              all_goals try omega
              refine hQ2 _ _ ?_
              (repeat' first|simp (disch:=omega) only[go_sem, List.length_map, List.map_cons, List.length_cons]|(apply spl<;>intro h<;>try simp (disch:=omega) only[go_sem, List.length_map, List.map_cons, List.length_cons, h]))
              all_goals try omega
              refine hQ' _ _ ?_
              (repeat' first|simp (disch:=omega) only[go_sem, List.length_map, List.map_cons, List.length_cons]|(apply spl<;>intro h<;>try simp (disch:=omega) only[go_sem, List.length_map, List.map_cons, List.length_cons, h]))
              all_goals try omega
              refine drawN_of ?so7a ?go7a1 ?go7a2
              rotate_left
              case go7a1=>
                repeat' first | exact allN_nil | refine allN_cons ?_ ?_
                all_goals
                  (repeat' first|simp (disch:=omega) only[go_sem, keep_mk, List.length_map, List.map_cons, List.length_cons]|(apply spl<;>intro h<;>try simp (disch:=omega) only[go_sem, keep_mk, List.length_map, List.map_cons, List.length_cons, h]))
                  all_goals first | rfl | omega
              case go7a2=>
                (repeat' first|simp (disch:=omega) only[go_sem, List.length_map, List.map_cons, List.length_cons]|(apply spl<;>intro h<;>try simp (disch:=omega) only[go_sem, List.length_map, List.map_cons, List.length_cons, h]))
                all_goals first | omega | rfl
            · rw[nuA_snoc]
              (repeat' first|simp (disch:=omega) only[go_sem, List.length_map, hc2, hf, hch, hfl, List.take_succ_cons, List.take_zero, List.map_cons, List.length_cons]|refine pure_of _ (hsa) ?_|refine pure_of _ (hsb) ?_|(apply spl<;>intro h<;>try simp (disch:=omega) only[go_sem, List.length_map, hc2, hf, hch, hfl, List.take_succ_cons, List.take_zero, List.map_cons, List.length_cons , h]))
              all_goals try omega
              refine hQ2 _ _ ?_
              (repeat' first|simp (disch:=omega) only[go_sem, List.length_map, List.map_cons, List.length_cons]|(apply spl<;>intro h<;>try simp (disch:=omega) only[go_sem, List.length_map, List.map_cons, List.length_cons, h]))
              all_goals try omega
              refine hQ' _ _ ?_
              (repeat' first|simp (disch:=omega) only[go_sem, List.length_map, List.map_cons, List.length_cons]|(apply spl<;>intro h<;>try simp (disch:=omega) only[go_sem, List.length_map, List.map_cons, List.length_cons, h]))
              all_goals try omega
              refine drawN_of ?so7b ?go7b1 ?go7b2
              rotate_left
              case go7b1=>
                repeat' first | exact allN_nil | refine allN_cons ?_ ?_
                all_goals
                  (repeat' first|simp (disch:=omega) only[go_sem, keep_mk, List.length_map, List.map_cons, List.length_cons]|(apply spl<;>intro h<;>try simp (disch:=omega) only[go_sem, keep_mk, List.length_map, List.map_cons, List.length_cons, h]))
                  all_goals first | rfl | omega
              case go7b2=>
                (repeat' first|simp (disch:=omega) only[go_sem, List.length_map, List.map_cons, List.length_cons]|(apply spl<;>intro h<;>try simp (disch:=omega) only[go_sem, List.length_map, List.map_cons, List.length_cons, h]))
                all_goals first | omega | rfl
        · have hke:k=at'.length:=by have:=hk.1; omega
          subst hke
          have hk2:=hk.2
          rw[show (toP a b at' p).take at'.length=toP a b at' p from List.take_of_length_le (by unfold toP; rw[List.length_map]; exact Nat.le_refl _)] at hk2
          have hst2:=hIx.step hva hvb hz hsrt hab hp hk2
          rw[show stP a b at' K p (numGo o (toP a b at' p)).1=⟨K x.acc y.acc, arcK at' (numGo o (toP a b at' p)).1 at'.length⟩ by unfold stP accM; rw[hx, hy]] at hst2
          refine ⟨?_⟩
          rw[paT, show (toP a b at' p).take at'.length=toP a b at' p from List.take_of_length_le (by unfold toP; rw[List.length_map]; exact Nat.le_refl _)]
          obtain ⟨⟨ns, o'⟩, hr⟩ : ∃ r, numGo o (toP a b at' p)=r:=⟨_, rfl⟩
          rw[hr] at hst2 hk2 ⊢
          dsimp only at hst2 hk2 ⊢
          obtain ⟨az, e, hA⟩ : ∃ az e, arcK at' ns at'.length=az++[e]:=by
            obtain ⟨n, hn⟩ : ∃ n, at'.length=n+1:=⟨at'.length-1, by omega⟩
            rw[hn, arcK]
            exact arcF_snoc _ _ _ _
          have hKl:=arcK_len at' ns at'.length
          rw[hA] at hst2 hKl ⊢
          rw[List.length_append, List.length_singleton] at hKl
          have hMR2:(Blk.map (nmE (o'.map encP))).refs=[]:=nmE_refs (still_prs _)
          have hMN2 : ∀ f g, Blk.ren f g (.map (nmE (o'.map encP))) = .map (nmE (o'.map encP)):=nmE_ren (still_prs _)
          rw[nuA_snoc, paH, paO_cons]
          (repeat' first|simp (disch:=omega) only[go_sem, List.length_map, List.length_cons, List.map_cons]|(apply spl<;>intro h<;>try simp (disch:=omega) only[go_sem, List.length_map, List.length_cons, List.map_cons, h]))
          all_goals try omega
          refine hQ2 _ _ ?_
          (repeat' first|simp (disch:=omega) only[go_sem, List.length_map, List.length_cons, List.map_cons]|(apply spl<;>intro h<;>try simp (disch:=omega) only[go_sem, List.length_map, List.length_cons, List.map_cons, h]))
          all_goals try omega
          refine ⟨(i+1, o', (s::ls)++[⟨K x.acc y.acc, az++[e]⟩]), ?_, hst2, by dsimp only; omega⟩
          refine (head_thaw (r:=11) rfl rfl (thaw_row1 (ks:=[9]) rfl ⟨_, rfl⟩ (thaw_stas (A:=az++[e]) (l:=az.length+1) rfl (by simp) (s::ls) (K x.acc y.acc)).1 (thaw_stas (A:=az++[e]) (l:=az.length+1) rfl (by simp) (s::ls) (K x.acc y.acc)).2.1 (thaw_all ((s::ls)++[⟨K x.acc y.acc, az++[e]⟩])))).trans ?_
          rw[paS, paH]
          dsimp only
          rw[paO_snoc]
          refine (norm_by (R:=[[], [], [], [], [], [11], [], [], [9], [], [9], []]) (ks:=[0, 1, 2, 3, 4, 5, 11]) (dr:=[(9, ((az++[e]).map encArc).length)]) (by simp only[markRO, markFrom, List.contains_cons, List.contains_nil, Bool.or_false, Bool.false_eq_true, if_false, if_true, Nat.reduceBEq, Nat.reduceAdd, Nat.zero_add, List.set_cons_zero, List.set_cons_succ, List.map_cons, List.map_nil, List.cons_append, List.nil_append, hMR2]; rfl) rfl rfl rfl rfl rfl ?_)
          simp only[roMark_cons]
          simp only[markRO, markFrom, List.contains_cons, List.contains_nil, Bool.or_false, Bool.false_eq_true, if_false, if_true, Nat.reduceBEq, Nat.reduceAdd, Nat.zero_add, List.set_cons_zero, List.set_cons_succ, roBy_map, List.map_cons, List.map_nil, List.cons_append, List.nil_append, List.getD_eq_getElem?_getD, List.getElem?_cons_zero, List.getElem?_cons_succ, Option.getD_some, hMN2]
          rfl
  · obtain ⟨hRo, _⟩:=hIx.done hlt
    subst hRo
    cases out with
    | nil=>
      have hi0:i=0:=hlen.symm
      have:=(List.getElem?_eq_some_iff.1 hIx.zero).1
      omega
    | cons s ls=>
      have e2:(ls.map encSta).take ls.length=ls.map encSta:=List.take_of_length_le (by rw[List.length_map]; exact Nat.le_refl _)
      refine ⟨?_⟩
      rw[paS, paH, paO_cons]
      (repeat' first|simp (disch:=omega) only[go_sem, List.length_map, List.map_cons, List.length_cons]|(apply spl<;>intro h<;>try simp (disch:=omega) only[go_sem, List.length_map, List.map_cons, List.length_cons, h]))
      all_goals try omega
      refine hQ' _ _ ?_
      (repeat' first|simp (disch:=omega) only[go_sem, List.length_map, List.map_cons, List.length_cons]|(apply spl<;>intro h<;>try simp (disch:=omega) only[go_sem, List.length_map, List.map_cons, List.length_cons, h]))
      all_goals try omega
      refine drawN_of ?se ?ge1 ?ge2
      rotate_left
      case ge1=>
        repeat' first | exact allN_nil | refine allN_cons ?_ ?_
        all_goals
          (repeat' first|simp (disch:=omega) only[go_sem, keep_mk, List.length_map, List.map_cons, List.length_cons, e2]|(apply spl<;>intro h<;>try simp (disch:=omega) only[go_sem, keep_mk, List.length_map, List.map_cons, List.length_cons, e2, h]))
          all_goals first | rfl | omega
      case ge2=>
        (repeat' first|simp (disch:=omega) only[go_sem, List.length_map, List.map_cons, List.length_cons, e2]|(apply spl<;>intro h<;>try simp (disch:=omega) only[go_sem, List.length_map, List.map_cons, List.length_cons, e2, h]))
        all_goals first | omega | rfl
end Ago
/- Pairs: both, And, Or and Minus in the program. -/
set_option maxRecDepth 100000
set_option maxHeartbeats 4000000
namespace Ago
open Go (IntKind)
/-- What two machines combine to, and the error's number. -/
def combM (K:Bool→Bool→Bool) (a b:List Sta):List Sta × Int:=if validM a=true∧validM b=true then
    match pairM a b (by2 a b) K with
    | some r=>(leastM r, 0)
    | none=>([], 32)
  else ([], 1)
theorem both_run (a b:List Sta) (ha:SmallM a) (hb:SmallM b) (kf:Nat) (K:Bool→Bool→Bool) (hK:Keeps kf K):PRun CB 345 [encMa a, encMa b, .fn kf []] (.tup [encMa (combM K a b).1, .int .i64 (combM K a b).2]):=by
  have v1:=valid_run a ha
  have v2:=valid_run b hb
  refine prun_of ac345 rfl ?_
  cases hva:validM a with
  | false=>
    rw[show combM K a b=([], 1) by unfold combM; rw[hva, if_neg (by simp)]]
    rw[hva] at v1
    unfold encMa at *
    (repeat' first|simp (disch:=omega) only[go_sem, ac345, enter]|refine pure_of _ (v1) ?_|(apply spl<;>intro h<;>try simp (disch:=omega) only[go_sem, ac345, enter , h]))
    all_goals first | omega | rfl
  | true=>
    cases hvb:validM b with
    | false=>
      rw[show combM K a b=([], 1) by unfold combM; rw[hvb, if_neg (by simp)]]
      rw[hva] at v1
      rw[hvb] at v2
      unfold encMa at *
      (repeat' first|simp (disch:=omega) only[go_sem, ac345, enter]|refine pure_of _ (v1) ?_|refine pure_of _ (v2) ?_|(apply spl<;>intro h<;>try simp (disch:=omega) only[go_sem, ac345, enter , h]))
      all_goals first | omega | rfl
    | true=>
      have h1:=pairs_run a b ha hb hva hvb kf K hK
      rw[hva] at v1
      rw[hvb] at v2
      cases hR:pairM a b (by2 a b) K with
      | none=>
        rw[show combM K a b=([], 32) by unfold combM; rw[hva, hvb, if_pos ⟨rfl, rfl⟩, hR]]
        rw[hR] at h1
        rw[show outM (none:Option (List Sta))=[] from rfl, show (none:Option (List Sta)).isSome=false from rfl] at h1
        unfold encMa at *
        (repeat' first|simp (disch:=omega) only[go_sem, ac345, enter]|refine pure_of _ (v1) ?_|refine pure_of _ (v2) ?_|refine pure_of _ (h1) ?_|(apply spl<;>intro h<;>try simp (disch:=omega) only[go_sem, ac345, enter , h]))
        all_goals first | omega | rfl
      | some r=>
        obtain ⟨hz, hsrt, _, hab⟩:=by2_ok (b:=b) hva
        have hv:=pairM_valid hva hvb hz hsrt hab hR
        have h2:=least_run r (small_valid hv) hv (by have:=len_valid hv; omega)
        rw[show combM K a b=(leastM r, 0) by unfold combM; rw[hva, hvb, if_pos ⟨rfl, rfl⟩, hR]]
        rw[hR] at h1
        rw[show outM (some r)=r from rfl, show (some r).isSome=true from rfl] at h1
        obtain ⟨L, hL⟩ : ∃ L, leastM r=L:=⟨_, rfl⟩
        rw[hL] at h2 ⊢
        unfold encMa at *
        (repeat' first|simp (disch:=omega) only[go_sem, ac345, enter]|refine pure_of _ (v1) ?_|refine pure_of _ (v2) ?_|refine pure_of _ (h1) ?_|refine pure_of _ (h2) ?_|(apply spl<;>intro h<;>try simp (disch:=omega) only[go_sem, ac345, enter , h]))
        all_goals first | omega | rfl
theorem And_run (a b:List Sta) (ha:SmallM a) (hb:SmallM b):PRun CB 319 [encMa a, encMa b] (.tup [encMa (combM (fun p q=>p && q) a b).1, .int .i64 (combM (fun p q=>p && q) a b).2]):=by
  have h:=both_run a b ha hb 346 _ and_keeps
  refine prun_of ac319 rfl ?_
  obtain ⟨r, hr⟩ : ∃ r, combM (fun p q=>p && q) a b=r:=⟨_, rfl⟩
  rw[hr] at h ⊢
  unfold encMa at *
  (repeat' first|simp (disch:=omega) only[go_sem, ac319, enter]|refine pure_of _ (h) ?_|(apply spl<;>intro h<;>try simp (disch:=omega) only[go_sem, ac319, enter , h]))
  all_goals first | omega | rfl
theorem Or_run (a b:List Sta) (ha:SmallM a) (hb:SmallM b):PRun CB 322 [encMa a, encMa b] (.tup [encMa (combM (fun p q=>p || q) a b).1, .int .i64 (combM (fun p q=>p || q) a b).2]):=by
  have h:=both_run a b ha hb 348 _ or_keeps
  refine prun_of ac322 rfl ?_
  obtain ⟨r, hr⟩ : ∃ r, combM (fun p q=>p || q) a b=r:=⟨_, rfl⟩
  rw[hr] at h ⊢
  unfold encMa at *
  (repeat' first|simp (disch:=omega) only[go_sem, ac322, enter]|refine pure_of _ (h) ?_|(apply spl<;>intro h<;>try simp (disch:=omega) only[go_sem, ac322, enter , h]))
  all_goals first | omega | rfl
theorem Minus_run (a b:List Sta) (ha:SmallM a) (hb:SmallM b):PRun CB 324 [encMa a, encMa b] (.tup [encMa (combM (fun p q=>p && !q) a b).1, .int .i64 (combM (fun p q=>p && !q) a b).2]):=by
  have h:=both_run a b ha hb 349 _ minus_keeps
  refine prun_of ac324 rfl ?_
  obtain ⟨r, hr⟩ : ∃ r, combM (fun p q=>p && !q) a b=r:=⟨_, rfl⟩
  rw[hr] at h ⊢
  unfold encMa at *
  (repeat' first|simp (disch:=omega) only[go_sem, ac324, enter]|refine pure_of _ (h) ?_|(apply spl<;>intro h<;>try simp (disch:=omega) only[go_sem, ac324, enter , h]))
  all_goals first | omega | rfl
end Ago
