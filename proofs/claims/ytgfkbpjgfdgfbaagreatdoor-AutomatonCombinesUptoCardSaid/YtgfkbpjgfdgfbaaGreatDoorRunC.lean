/- Least automata: numbered: its states. -/
import Derived.Test.YtgfkbpjgfdgfbaaGreatDoorRunB
set_option linter.unusedSimpArgs false
set_option linter.unusedVariables false
set_option maxRecDepth 100000
set_option maxHeartbeats 16000000
namespace Ago
open Go (IntKind)
/-- A block whose references lie below. -/
def ClB (n:Nat) (b:Blk):Prop:=(∀ r, r∈b.refs→r<n)∧∀ f g, (∀ r, r<n→f r=some r)→(∀ r, r<n→g r=r)→Blk.ren f g b=b
theorem cl_of {H:Heap} {n:Nat} (hn:H.length=n) (h : ∀ b, b∈H→ClB n b):Cl H:=⟨fun b hb r hr=>by rw[hn]; exact (h b hb).1 r hr, fun b hb f g hf hg=>(h b hb).2 f g (fun r hr=>hf r (by omega)) fun r hr=>hg r (by omega)⟩
theorem clb_flat {n k:Nat} {els:List AV} {ro:Bool} {fam:Nat} (h:fam<n):ClB n (.row k els ro true fam):=⟨fun r hr=>by simp [Blk.refs] at hr, fun f g hf hg=>by simp [Blk.ren, hg fam h]⟩
theorem clb_map {n:Nat} {l:List AV} (h : ∀ x, x∈l→Stil x):ClB n (.map (nmE l)):=⟨fun r hr=>(by rw[nmE_refs h] at hr; cases hr), fun f g _ _=>nmE_ren h f g⟩
theorem clb_box1 {n k j r i l:Nat} {ro:Bool} {fam:Nat} (h:fam<n) (hr:r<n):ClB n (.row k [.agg [.sref j r i l]] ro false fam):=⟨fun q hq=>by
  simp [Blk.refs, AV.refsN] at hq
  omega, fun f g hf hg=>by simp [Blk.ren, hg fam h, AV.renN, hf r hr]⟩
theorem clb_box2 {n k j r i l:Nat} {b ro:Bool} {fam:Nat} (h:fam<n) (hr:r<n):ClB n (.row k [.agg [.bool b, .sref j r i l]] ro false fam):=⟨fun q hq=>by
  simp [Blk.refs, AV.refsN] at hq
  omega, fun f g hf hg=>by simp [Blk.ren, hg fam h, AV.renN, hf r hr]⟩
theorem clb_one {n k j r i l:Nat} {ro:Bool} {fam:Nat} (h:fam<n) (hr:r<n):ClB n (.row k [.sref j r i l] ro false fam):=⟨fun q hq=>by
  simp [Blk.refs, AV.refsN] at hq
  omega, fun f g hf hg=>by simp [Blk.ren, hg fam h, AV.renN, hf r hr]⟩
theorem clb_gone {n:Nat}:ClB n .gone:=⟨fun r hr=>(by cases hr), fun _ _ _ _=>rfl⟩
theorem clb_resv {n:Nat}:ClB n .resv:=⟨fun r hr=>(by cases hr), fun _ _ _ _=>rfl⟩
theorem all_nil {p:Blk→Prop} : ∀ b, b∈([]:Heap)→p b:=fun b h=>by cases h
theorem all_cons {p:Blk→Prop} {b:Blk} {H:Heap} (h1:p b) (h2 : ∀ b, b∈H→p b) : ∀ x, x∈b::H→p x:=fun x h=>by
  rcases List.mem_cons.1 h with rfl | h
  · exact h1
  · exact h2 x h
def nuO (out:List Sta):Heap:=match out with
  | []=>[.row 1 [.agg [.snil 2]] false true 4]
  | s::l=>[.row 1 [.agg [.sref 2 5 0 (l.length+1)]] false false 4, .row 2 ((s::l).map encSta) false true 5]
def nuH (m:List Sta) (c o:List Nat):Heap:=[.row 1 [.agg [.tsl 2 (m.map encSta)]] false true 0, .row 1 [.agg [.snil 2]] false true 1, .map (nmE ((o.map (clO c)).map encN)), .row 1 (o.map encN) false true 3]
def nuA (acc:Bool) (S:Nat) (l:List Arc):Heap:=match l with
  | []=>[.row 2 [.agg [.bool acc, .snil 3]] false true S]
  | a::az=>[.row 2 [.agg [.bool acc, .sref 3 (S+1) 0 (az.length+1)]] false false S, .row 3 ((a::az).map encArc) false true (S+1)]
def nuS (m:List Sta) (at':List Nat) (nx:List (List Nat)) (c:List Nat) (a:Nat × List Nat × List Sta):St:=
  { tmps:=slots 95 [(1, .tsl 1 (at'.map encN)), (2, .tsl 1 (nx.map encB)), (3, .tsl 1 (c.map encN)), (4, .ptr 1 0 0 0), (8, .ptr 1 1 0 0), (9, .mref 2), (10, .sref 1 3 0 a.2.1.length), (11, .ptr 1 4 0 0), (12, .int .i64 a.1)],
    heap:=nuH m c a.2.1++nuO a.2.2, base:=0 }
def nuT (m:List Sta) (at':List Nat) (nx:List (List Nat)) (c:List Nat) (i:Nat) (o:List Nat) (out:List Sta) (S:Nat) (l:List Nat) (acc:Bool) (k:Nat):St:=
  { tmps:=slots 95 [(1, .tsl 1 (at'.map encN)), (2, .tsl 1 (nx.map encB)), (3, .tsl 1 (c.map encN)), (4, .ptr 1 0 0 0), (8, .ptr 1 1 0 0), (9, .mref 2), (10, .sref 1 3 0 (ordGo c o (l.take k)).2.length), (11, .ptr 1 4 0 0), (12, .int .i64 i), (14, .ptr 2 S 0 0), (45, .tsl 1 (l.map encN)), (46, .int .i64 l.length), (47, .int .i64 k)],
    heap:=nuH m c (ordGo c o (l.take k)).2++(nuO out++nuA acc S (arcK at' (ordGo c o (l.take k)).1 k)), base:=0 }
theorem nuA_snoc (acc:Bool) (S:Nat) (l:List Arc) (a:Arc):nuA acc S (l++[a])=[.row 2 [.agg [.bool acc, .sref 3 (S+1) 0 (l.length+1)]] false false S, .row 3 ((l++[a]).map encArc) false true (S+1)]:=by
  obtain ⟨b, t, hb⟩:=exCons l a
  have:=congrArg List.length hb
  rw[List.length_append, List.length_cons, List.length_cons, List.length_nil] at this
  rw[hb, nuA, show l.length=t.length by omega]
theorem nuA_nil (acc:Bool) (S:Nat):nuA acc S []=[.row 2 [.agg [.bool acc, .snil 3]] false true S]:=(rfl)
theorem nuO_snoc (l:List Sta) (s:Sta):nuO (l++[s])=[.row 1 [.agg [.sref 2 5 0 (l.length+1)]] false false 4, .row 2 ((l++[s]).map encSta) false true 5]:=by
  obtain ⟨b, t, hb⟩:=exCons l s
  have:=congrArg List.length hb
  rw[List.length_append, List.length_cons, List.length_cons, List.length_nil] at this
  rw[hb, nuO, show l.length=t.length by omega]
theorem nuO_nil:nuO []=[.row 1 [.agg [.snil 2]] false true 4]:=(rfl)
theorem nuO_cons (s:Sta) (l:List Sta):nuO (s::l)=[.row 1 [.agg [.sref 2 5 0 (l.length+1)]] false false 4, .row 2 ((s::l).map encSta) false true 5]:=(rfl)
/-- The bodies of a function's loops. -/
def ACode.loopsOf:ACode→List ACode
  | .seq a b=>a.loopsOf++b.loopsOf
  | .cond _ a b=>a.loopsOf++b.loopsOf
  | .block _ b=>b.loopsOf
  | .scope b=>b.loopsOf
  | .loop _ b=>b::b.loopsOf
  | _=>[]
def AFn.lp (f:AFn) (i:Nat):ACode:=f.body.loopsOf.getD i .skip
/-- One row alone has its family: told by a list. -/
def famAt (f:Nat):Nat→Heap→List Nat
  | _, []=>[]
  | j, .row _ _ _ _ f'::H=>if f'=f then j::famAt f (j+1) H else famAt f (j+1) H
  | j, _::H=>famAt f (j+1) H
theorem famAt_mem (f:Nat) : ∀ (H:Heap) (i j n:Nat) (els:List AV) (ro fl:Bool), H[j]?=some (.row n els ro fl f)→i+j∈famAt f i H
  | [], _, _, _, _, _, _, h=>by cases h
  | b::H, i, 0, n, els, ro, fl, h=>by
    cases h
    simp [famAt]
  | b::H, i, j+1, n, els, ro, fl, h=>by
    have ih:=famAt_mem f H (i+1) j n els ro fl h
    rw[show i+(j+1)=i+1+j by omega]
    cases b with
    | row _ _ _ _ f'=>
      unfold famAt
      split
      · exact List.mem_cons_of_mem _ ih
      · exact ih
    | _=>exact ih
theorem lone_of {H:Heap} {r f:Nat} {l:List Nat} (hl:(l.all fun j=>j == r)=true) (h:famAt f 0 H=l):Lone H r f:=fun j n els ro fl hj=>by
  have:=famAt_mem f H 0 j n els ro fl hj
  rw[h, Nat.zero_add] at this
  simpa using List.all_eq_true.1 hl j this
theorem thawC_flat {H:Heap} {n q l:Nat} {els:List AV} {ro:Bool} {fam:Nat} (h:H[q]?=some (.row n els ro true fam)) (hl:l=els.length):thawC H (.sref n q 0 l) = .tsl n els∧thawRefsC H (.sref n q 0 l)=[q]:=by
  have e:frz H 6 (.sref n q 0 l)=some (.tsl n els):=by
    rw[frz6_sref, h]
    simp only[hl, Nat.zero_add, Nat.le_refl, and_self, if_true, List.drop_zero, List.take_length]
  refine ⟨?_, ?_⟩
  · unfold thawC
    simp only[e]
  · unfold thawRefsC
    simp only[e]
    simp only[frzRefs, h, if_true]
theorem thaw_stas {H:Heap} {q l:Nat} {A:List Arc} {ro:Bool} {fam:Nat} (h:H[q]?=some (.row 3 (A.map encArc) ro true fam)) (hl:l=A.length) (out:List Sta) (acc:Bool) :
    (out.map encSta++[AV.agg [.bool acc, .sref 3 q 0 l]]).flatMap (fun x=>x.cells.flatMap (thawRefsC H))=[q]∧(out.map encSta++[AV.agg [.bool acc, .sref 3 q 0 l]]).map (thawE H)=(out++[(⟨acc, A⟩:Sta)]).map encSta∧(((out++[(⟨acc, A⟩:Sta)]).map encSta).all fun x=>x.isPure && x.aged)=true:=by
  obtain ⟨h1, h2⟩:=thawC_flat h (l:=l) (by rw[List.length_map]; exact hl)
  refine ⟨?_, ?_, ?_⟩
  · have e0:(out.map encSta).flatMap (fun x=>x.cells.flatMap (thawRefsC H))=[]:=by
      rw[List.flatMap_map, List.flatMap_eq_nil_iff]
      exact fun s _=>rfl
    rw[List.flatMap_append, e0, List.nil_append]
    show (thawRefsC H (.bool acc)++(thawRefsC H (.sref 3 q 0 l)++[]))++[]=[q]
    rw[h2]
    rfl
  · rw[List.map_append, List.map_append, List.map_map]
    congr 1
    show [AV.agg [thawC H (.bool acc), thawC H (.sref 3 q 0 l)]]=_
    rw[h1]
    rfl
  · rw[List.all_eq_true]
    intro x hx
    obtain ⟨s, _, rfl⟩:=List.mem_map.1 hx
    rfl
theorem arcF_snoc (l:List Arc) (lo hi nx:Int) : ∃ i b, arcF l lo hi nx=i++[b]:=by
  unfold arcF
  split
  · split
    · exact ⟨_, _, rfl⟩
    · exact ⟨_, _, rfl⟩
  · exact ⟨[], _, rfl⟩
theorem thaw_all (l:List Sta):((l.map encSta).all fun x=>x.isPure && x.aged)=true:=by
  rw[List.all_eq_true]
  intro x hx
  obtain ⟨s, _, rfl⟩:=List.mem_map.1 hx
  rfl
theorem head_thaw {live:List Nat} {tm:List AV} {H H':Heap} {rb h r:Nat} (hh:hintsOf live=[h]) (ht:(St.mk tm H 0 rb).thawBy h=⟨tm, thawRows [r] H, 0, rb⟩) (e:thawRows [r] H=H'):St.head live ⟨tm, H, 0, rb⟩=St.norm live ⟨tm, H', 0, rb⟩:=by
  unfold St.head
  rw[hh, List.foldl_cons, List.foldl_nil, ht, e]
theorem roBy_map (dr:List (Nat × Nat)) (es:List (AV × AV)):Blk.roBy dr (.map es) = .map es:=(rfl)
theorem roMark_cons (d:Nat × Nat) (dr:List (Nat × Nat)) (bs:List Blk):roMark (d::dr) bs=bs.map (Blk.roBy (d::dr)):=(rfl)
end Ago
/- Least automata: numbered: a round of the inner loop, where no state is there. -/
set_option maxRecDepth 100000
set_option maxHeartbeats 16000000
namespace Ago
open Go (IntKind)
theorem nu_round5 {Q:Ex→St→Prop} (m:List Sta) (at':List Nat) (nx:List (List Nat)) (c:List Nat) (hm:m.length<2^20) (hal:at'.length≤256) (hab : ∀ b, b∈at'→b<256) (hC : ∀ t, t<m.length→(c.map encN)[t]?=some (.int .i64 (clO c t)))
    (i:Nat) (o:List Nat)  (hol : ∀ t, t∈o→t<m.length) (hon:(o.map (clO c)).Nodup) (l:List Nat) (hll:l.length=at'.length) (hlt2 : ∀ t, t∈l→t<m.length) (acc:Bool) (k:Nat) (hkt:k<l.length) :
    aw (RunOf CB) (PRun CB) (ac372.lp 1) (awThen (fun t=>∃ a', t.norm [1, 2, 3, 4, 8, 9, 10, 11, 12, 14, 45, 46, 47]=nuT m at' nx c i o [] 5 l acc a'∧a'≤l.length∧l.length-a'<l.length-k) Q) (nuT m at' nx c i o [] 5 l acc k):=by
  simp only[AFn.lp, ac372, ACode.loopsOf, List.cons_append, List.append_nil, List.nil_append, List.getD_cons_succ, List.getD_cons_zero]
  obtain ⟨⟨ns, o'⟩, hr⟩ : ∃ r, ordGo c o (l.take k)=r:=⟨_, rfl⟩
  have hnl2:ns.length=k:=by
    have:=ordGo_len c (l.take k) o
    rw[hr, List.length_take] at this
    dsimp only at this
    omega
  have hlow : ∀ t, t∈o'→t<m.length:=by
    have:=ordGo_low (c:=c) hol (l:=l.take k) fun t ht=>hlt2 t (List.mem_of_mem_take ht)
    rw[hr] at this
    exact this
  have hnd:(o'.map (clO c)).Nodup:=by
    have:=ordGo_nodup c (l.take k) o hon
    rw[hr] at this
    exact this
  have hos':=ord_small hlow hnd
  have hMR:(Blk.map (nmE ((o'.map (clO c)).map encN))).refs=[]:=nmE_refs (still_nums _)
  have hMN : ∀ f g, Blk.ren f g (.map (nmE ((o'.map (clO c)).map encN))) = .map (nmE ((o'.map (clO c)).map encN)):=nmE_ren (still_nums _)
  have hKl:=arcK_len at' ns k
  obtain ⟨t, ht⟩:=exAt hkt
  have htm:=hlt2 t (List.mem_of_getElem? ht)
  have ht2:(l.map encN)[k]?=some (.int .i64 t):=mget ht
  have hct:=hC t htm
  obtain ⟨b, hb⟩:=exAt (show k<at'.length by omega)
  have hb2:(at'.map encN)[k]?=some (.int .i64 b):=mget hb
  have hb3:at'.getD k 0=b:=by rw[List.getD_eq_getElem?_getD, hb]; rfl
  have hh:=hiOf_run at' (by omega) hab k (by omega)
  have hf:findKey (.one .int) (.int .i64 (clO c t)) (nmE ((o'.map (clO c)).map encN)) 0=_:=find_num (clO c t) (o'.map (clO c)) 0 0
  have hT:l.take (k+1)=l.take k++[t]:=by rw[List.take_add_one, ht]; rfl
  have hS:=ordGo_snoc c t (l.take k) o
  rw[hr] at hS
  dsimp only at hS
  rw[←hT] at hS
  simp only[Nat.zero_add] at hf
  have hA0 : ∀ j:Nat, arcK at' (ns++[j]) (k+1)=arcF (arcK at' ns k) b (hiN at' k) j:=fun j=>by
    rw[arcK, arcK_pre at' ns [j] k (by omega), hb3]
    congr 1
    rw[List.getD_eq_getElem?_getD, List.getElem?_append_right (by omega), hnl2, Nat.sub_self]
    rfl
  obtain ⟨A, hA⟩ : ∃ A, arcK at' ns k=A:=⟨_, rfl⟩
  rw[hA] at hA0 hKl
  by_cases hin:clO c t∈o'.map (clO c)
  · rw[if_pos hin] at hf hS
    obtain ⟨j, hj⟩ : ∃ j, (o'.map (clO c)).idxOf (clO c t)=j:=⟨_, rfl⟩
    rw[hj] at hf hS
    have hA1:=hA0 j
    rcases last_cases A with rfl | ⟨az, a, rfl⟩
    · rw[arcF_nil] at hA1
      rw[nuT, hr]
      dsimp only
      rw[hA, nuA_nil, nuH, nuO_nil]
      (repeat' first|simp (disch:=omega) only[go_sem, List.length_map, ht2, hct, hb2, hf]|refine pure_of _ (hh) ?_|(apply spl<;>intro h<;>try simp (disch:=omega) only[go_sem, List.length_map, ht2, hct, hb2, hf , h]))
      all_goals try omega
      refine call_of _ _ (addArc_nil (cl_of (n:=6) rfl (by repeat' first | exact all_nil | (refine all_cons ?_ ?_) | exact clb_flat (by decide) | exact clb_map (still_nums _) | exact clb_box1 (by decide) (by decide) | exact clb_box2 (by decide) (by decide) | exact clb_one (by decide) (by decide) | exact clb_gone | exact clb_resv)) b (hiN at' k) j) ?_
      (repeat' first|simp (disch:=omega) only[go_sem]|(apply spl<;>intro h<;>try simp (disch:=omega) only[go_sem, h]))
      all_goals try omega
      refine ⟨k+1, ?_, by omega, by omega⟩
      rw[nuT, hS]
      dsimp only
      rw[hA1, ← List.nil_append [(⟨b, hiN at' k, j⟩:Arc)], nuA_snoc, nuH, nuO_nil]
      refine (norm_by0 [[], [], [], [], [], [6], []] [0, 1, 2, 3, 4, 5, 6] (by simp only[List.map_cons, List.map_nil, List.cons_append, List.nil_append, hMR]; rfl) rfl rfl rfl rfl ?_)
      simp only[List.map_cons, List.map_nil, List.cons_append, List.nil_append, List.getD_eq_getElem?_getD, List.getElem?_cons_zero, List.getElem?_cons_succ, Option.getD_some, hMN]
      rfl
    · have hal2:az.length+1≤k:=by simpa using hKl
      by_cases haj:a.next=(j:Int)
      · rw[arcF_same haj] at hA1
        rw[nuT, hr]
        dsimp only
        rw[hA, nuA_snoc, nuH, nuO_nil]
        (repeat' first|simp (disch:=omega) only[go_sem, List.length_map, ht2, hct, hb2, hf]|refine pure_of _ (hh) ?_|(apply spl<;>intro h<;>try simp (disch:=omega) only[go_sem, List.length_map, ht2, hct, hb2, hf , h]))
        all_goals try omega
        refine call_of _ _ (addArc_same (cl_of (n:=7) rfl (by repeat' first | exact all_nil | (refine all_cons ?_ ?_) | exact clb_flat (by decide) | exact clb_map (still_nums _) | exact clb_box1 (by decide) (by decide) | exact clb_box2 (by decide) (by decide) | exact clb_one (by decide) (by decide) | exact clb_gone | exact clb_resv)) (l:=az) (a:=a) (r:=5+1) (fam:=5+1) rfl (lone_of (l:=[6]) (by decide) rfl) (by show 5+1<7; decide) (by omega) b (hiN at' k) j haj) ?_
        (repeat' first|simp (disch:=omega) only[go_sem]|(apply spl<;>intro h<;>try simp (disch:=omega) only[go_sem, h]))
        all_goals try omega
        refine ⟨k+1, ?_, by omega, by omega⟩
        rw[nuT, hS]
        dsimp only
        rw[hA1, nuA_snoc, nuH, nuO_nil]
        refine (norm_by0 [[], [], [], [], [], [6], []] [0, 1, 2, 3, 4, 5, 6] (by simp only[List.map_cons, List.map_nil, List.cons_append, List.nil_append, hMR]; rfl) rfl rfl rfl rfl ?_)
        simp only[List.map_cons, List.map_nil, List.cons_append, List.nil_append, List.getD_eq_getElem?_getD, List.getElem?_cons_zero, List.getElem?_cons_succ, Option.getD_some, hMN]
        rfl
      · rw[arcF_diff haj] at hA1
        rw[nuT, hr]
        dsimp only
        rw[hA, nuA_snoc, nuH, nuO_nil]
        (repeat' first|simp (disch:=omega) only[go_sem, List.length_map, ht2, hct, hb2, hf]|refine pure_of _ (hh) ?_|(apply spl<;>intro h<;>try simp (disch:=omega) only[go_sem, List.length_map, ht2, hct, hb2, hf , h]))
        all_goals try omega
        refine call_of _ _ (addArc_diff (cl_of (n:=7) rfl (by repeat' first | exact all_nil | (refine all_cons ?_ ?_) | exact clb_flat (by decide) | exact clb_map (still_nums _) | exact clb_box1 (by decide) (by decide) | exact clb_box2 (by decide) (by decide) | exact clb_one (by decide) (by decide) | exact clb_gone | exact clb_resv)) (l:=az) (a:=a) (r:=5+1) (fam:=5+1) rfl (lone_of (l:=[6]) (by decide) rfl) (by show 5+1<7; decide) (by omega) b (hiN at' k) j haj) ?_
        (repeat' first|simp (disch:=omega) only[go_sem]|(apply spl<;>intro h<;>try simp (disch:=omega) only[go_sem, h]))
        all_goals try omega
        refine ⟨k+1, ?_, by omega, by omega⟩
        rw[nuT, hS]
        dsimp only
        rw[hA1, nuA_snoc, nuH, nuO_nil, List.length_append]
        refine (norm_by0 [[], [], [], [], [], [7], [], []] [0, 1, 2, 3, 4, 5, 7] (by simp only[List.map_cons, List.map_nil, List.cons_append, List.nil_append, hMR]; rfl) rfl rfl rfl rfl ?_)
        simp only[List.map_cons, List.map_nil, List.cons_append, List.nil_append, List.getD_eq_getElem?_getD, List.getElem?_cons_zero, List.getElem?_cons_succ, Option.getD_some, hMN]
        rfl
  · rw[if_neg hin] at hf hS
    have hA1:=hA0 o'.length
    have hMR2:(Blk.map (nmE (((o'++[t]).map (clO c)).map encN))).refs=[]:=nmE_refs (still_nums _)
    have hMN2 : ∀ f g, Blk.ren f g (.map (nmE (((o'++[t]).map (clO c)).map encN))) = .map (nmE (((o'++[t]).map (clO c)).map encN)):=nmE_ren (still_nums _)
    have hE:nmE ((o'.map (clO c)).map encN)++[(.int .i64 (clO c t), .int .i64 o'.length)]=nmE (((o'++[t]).map (clO c)).map encN):=by
      have:=nmE_snoc ((o'.map (clO c)).map encN) (encN (clO c t))
      rw[List.length_map, List.length_map] at this
      rw[List.map_append, List.map_append]
      exact this
    have hO:o'.map encN++[.int .i64 t]=(o'++[t]).map encN:=by rw[List.map_append]; rfl
    rcases last_cases A with rfl | ⟨az, a, rfl⟩
    · rw[arcF_nil] at hA1
      rw[nuT, hr]
      dsimp only
      rw[hA, nuA_nil, nuH, nuO_nil]
      (repeat' first|simp (disch:=omega) only[go_sem, List.length_map, ht2, hct, hb2, hf, hE, hO]|refine pure_of _ (hh) ?_|(apply spl<;>intro h<;>try simp (disch:=omega) only[go_sem, List.length_map, ht2, hct, hb2, hf, hE, hO , h]))
      all_goals try omega
      refine call_of _ _ (addArc_nil (cl_of (n:=8) rfl (by repeat' first | exact all_nil | (refine all_cons ?_ ?_) | exact clb_flat (by decide) | exact clb_map (still_nums _) | exact clb_box1 (by decide) (by decide) | exact clb_box2 (by decide) (by decide) | exact clb_one (by decide) (by decide) | exact clb_gone | exact clb_resv)) b (hiN at' k) o'.length) ?_
      (repeat' first|simp (disch:=omega) only[go_sem]|(apply spl<;>intro h<;>try simp (disch:=omega) only[go_sem, h]))
      all_goals try omega
      refine ⟨k+1, ?_, by omega, by omega⟩
      rw[nuT, hS]
      dsimp only
      rw[hA1, ← List.nil_append [(⟨b, hiN at' k, o'.length⟩:Arc)], nuA_snoc, nuH, nuO_nil, List.length_append]
      refine (norm_by0 [[], [], [], [], [], [8], [], [], []] [0, 1, 2, 7, 4, 5, 8] (by simp only[List.map_cons, List.map_nil, List.cons_append, List.nil_append, hMR2]; rfl) rfl rfl rfl rfl ?_)
      simp only[List.map_cons, List.map_nil, List.cons_append, List.nil_append, List.getD_eq_getElem?_getD, List.getElem?_cons_zero, List.getElem?_cons_succ, Option.getD_some, hMN2]
      rfl
    · have hal2:az.length+1≤k:=by simpa using hKl
      by_cases haj:a.next=(o'.length:Int)
      · rw[arcF_same haj] at hA1
        rw[nuT, hr]
        dsimp only
        rw[hA, nuA_snoc, nuH, nuO_nil]
        (repeat' first|simp (disch:=omega) only[go_sem, List.length_map, ht2, hct, hb2, hf, hE, hO]|refine pure_of _ (hh) ?_|(apply spl<;>intro h<;>try simp (disch:=omega) only[go_sem, List.length_map, ht2, hct, hb2, hf, hE, hO , h]))
        all_goals try omega
        refine call_of _ _ (addArc_same (cl_of (n:=9) rfl (by repeat' first | exact all_nil | (refine all_cons ?_ ?_) | exact clb_flat (by decide) | exact clb_map (still_nums _) | exact clb_box1 (by decide) (by decide) | exact clb_box2 (by decide) (by decide) | exact clb_one (by decide) (by decide) | exact clb_gone | exact clb_resv)) (l:=az) (a:=a) (r:=5+1) (fam:=5+1) rfl (lone_of (l:=[6]) (by decide) rfl) (by show 5+1<9; decide) (by omega) b (hiN at' k) o'.length haj) ?_
        (repeat' first|simp (disch:=omega) only[go_sem]|(apply spl<;>intro h<;>try simp (disch:=omega) only[go_sem, h]))
        all_goals try omega
        refine ⟨k+1, ?_, by omega, by omega⟩
        rw[nuT, hS]
        dsimp only
        rw[hA1, nuA_snoc, nuH, nuO_nil, List.length_append]
        refine (norm_by0 [[], [], [], [], [], [6], [], [], []] [0, 1, 2, 8, 4, 5, 6] (by simp only[List.map_cons, List.map_nil, List.cons_append, List.nil_append, hMR2]; rfl) rfl rfl rfl rfl ?_)
        simp only[List.map_cons, List.map_nil, List.cons_append, List.nil_append, List.getD_eq_getElem?_getD, List.getElem?_cons_zero, List.getElem?_cons_succ, Option.getD_some, hMN2]
        rfl
      · rw[arcF_diff haj] at hA1
        rw[nuT, hr]
        dsimp only
        rw[hA, nuA_snoc, nuH, nuO_nil]
        (repeat' first|simp (disch:=omega) only[go_sem, List.length_map, ht2, hct, hb2, hf, hE, hO]|refine pure_of _ (hh) ?_|(apply spl<;>intro h<;>try simp (disch:=omega) only[go_sem, List.length_map, ht2, hct, hb2, hf, hE, hO , h]))
        all_goals try omega
        refine call_of _ _ (addArc_diff (cl_of (n:=9) rfl (by repeat' first | exact all_nil | (refine all_cons ?_ ?_) | exact clb_flat (by decide) | exact clb_map (still_nums _) | exact clb_box1 (by decide) (by decide) | exact clb_box2 (by decide) (by decide) | exact clb_one (by decide) (by decide) | exact clb_gone | exact clb_resv)) (l:=az) (a:=a) (r:=5+1) (fam:=5+1) rfl (lone_of (l:=[6]) (by decide) rfl) (by show 5+1<9; decide) (by omega) b (hiN at' k) o'.length haj) ?_
        (repeat' first|simp (disch:=omega) only[go_sem]|(apply spl<;>intro h<;>try simp (disch:=omega) only[go_sem, h]))
        all_goals try omega
        refine ⟨k+1, ?_, by omega, by omega⟩
        rw[nuT, hS]
        dsimp only
        rw[hA1, nuA_snoc, nuH, nuO_nil, List.length_append, List.length_append]
        refine (norm_by0 [[], [], [], [], [], [9], [], [], [], []] [0, 1, 2, 8, 4, 5, 9] (by simp only[List.map_cons, List.map_nil, List.cons_append, List.nil_append, hMR2]; rfl) rfl rfl rfl rfl ?_)
        simp only[List.map_cons, List.map_nil, List.cons_append, List.nil_append, List.getD_eq_getElem?_getD, List.getElem?_cons_zero, List.getElem?_cons_succ, Option.getD_some, hMN2]
        rfl
end Ago
