/- Heads of loops, step by step: what is reached, and its new numbers. -/
import Derived.Test.YtjmhldkncidpiaaGreatDoorMachE
import Derived.Test.YtjmhldkncidpiaaGreatDoorRunC
set_option linter.unusedSimpArgs false
set_option linter.unusedVariables false
namespace Ago
theorem reach_one {H:Heap} {base k r:Nat} {todo seen:List Nat} {b:Blk} (h1:base≤r) (hs:r∉seen) (h2:H[r]?=some b):reach H base (k+1) (r::todo) seen=reach H base k (b.refs++todo) (seen++[r]):=by
  have hc:seen.contains r=false:=by
    cases hb:seen.contains r with
    | false=>rfl
    | true=>exact (hs (by simpa using hb)).elim
  rw[reach, if_neg (by omega), if_neg (by rw[hc]; simp), h2]
/-- Blocks without references that stand next are taken as they stand. -/
theorem reach_kids {H:Heap} {base:Nat} : ∀ (l:List Nat) (k:Nat) (todo seen:List Nat), (∀ r, r∈l→base≤r∧∃ b, H[r]?=some b∧b.refs=[])→l.Nodup→(∀ r, r∈l→r∉seen)→reach H base (k+l.length) (l++todo) seen=reach H base k todo (seen++l)
  | [], k, todo, seen, _, _, _=>by simp
  | r::l, k, todo, seen, h, hn, hs=>by
    obtain ⟨h1, b, h2, h3⟩:=h r (List.mem_cons_self ..)
    rw[List.length_cons, show k+(l.length+1)=(k+l.length)+1 by omega, List.cons_append]
    rw[reach_one h1 (hs r (List.mem_cons_self ..)) h2]
    simp only[h3, List.nil_append]
    rw[reach_kids l k todo (seen++[r]) (fun x hx=>h x (List.mem_cons_of_mem _ hx)) (List.nodup_cons.1 hn).2 fun x hx=>by
      rw[List.mem_append, List.mem_singleton]
      rintro (h5 | h5)
      · exact hs x (List.mem_cons_of_mem _ hx) h5
      · subst h5
        exact (List.nodup_cons.1 hn).1 hx]
    rw[List.append_assoc, List.singleton_append]
/-- The new number of a block. -/
theorem renOf_at {ks:List Nat} {i r:Nat} (hn:ks.Nodup) (h:ks[i]?=some r):renOf 0 ks r=some i:=by
  unfold renOf
  rw[if_neg (Nat.not_lt_zero r)]
  obtain ⟨hl, hv⟩:=List.getElem?_eq_some_iff.1 h
  have:ks.idxOf? r=some i:=by
    rw[List.idxOf?, List.findIdx?_eq_some_iff_getElem]
    refine ⟨hl, by simp [hv], fun j hj=>?_⟩
    have hjl:j<ks.length:=by omega
    intro he
    have he:ks[j]=r:=by simpa using he
    exact (List.pairwise_iff_getElem.1 hn j i hjl hl hj) (he.trans hv.symm)
  rw[this]
  simp
/-- A write leaves the other blocks of the heap as they are, if none of them shares memory with what is written. -/
theorem strikeGo_same (r fam k:Nat) : ∀ (H:Heap) (i:Nat), (∀ j n els ro fl, H[j]?=some (.row n els ro fl fam)→i+j=r∨els.length<k)→strikeGo r fam k H i=some H
  | [], _, _=>rfl
  | b::H, i, h=>by
    have ih:=strikeGo_same r fam k H (i+1) fun j n els ro fl hj=>by
      have:=h (j+1) n els ro fl (by simpa using hj)
      omega
    unfold strikeGo
    rw[ih]
    cases b with
    | row n els ro fl fam'=>
      simp only
      rw[if_neg]
      rintro ⟨h1, h2, h3⟩
      subst h1
      have:=h 0 n els ro fl (by simp)
      omega
    | _=>rfl
theorem strike_same {H:Heap} {r fam k:Nat} (h : ∀ j n els ro fl, H[j]?=some (.row n els ro fl fam)→j=r∨els.length<k):H.strike r fam k=some H:=strikeGo_same r fam k H 0 fun j n els ro fl hj=>by
  have:=h j n els ro fl hj
  omega
/-- Every block is a row of its own family. -/
def Own (H:Heap):Prop:=∀ (j:Nat) (b:Blk), H[j]?=some b→∃ n els fl, b=Blk.row n els false fl j
theorem Own.fresh {H:Heap} (h:Own H) {r fam k:Nat} (hf:H.length≤fam):H.strike r fam k=some H:=strike_same fun j n els ro fl hj=>by
  obtain ⟨_, _, _, e⟩:=h j _ hj
  cases e
  have:=(List.getElem?_eq_some_iff.1 hj).1
  omega
theorem Own.self {H:Heap} (h:Own H) {r k:Nat}:H.strike r r k=some H:=strike_same fun j n els ro fl hj=>by
  obtain ⟨_, _, _, e⟩:=h j _ hj
  cases e
  exact .inl rfl
theorem Own.set {H:Heap} (h:Own H) {j n:Nat} {els:List AV} {fl:Bool}:Own (H.set j (.row n els false fl j)):=fun i b hb=>by
  rw[List.getElem?_set] at hb
  split at hb
  · rename_i e
    subst e
    split at hb
    · cases hb
      exact ⟨n, els, fl, rfl⟩
    · cases hb
  · exact h i b hb
theorem Own.add {H:Heap} (h:Own H) {n j:Nat} {els:List AV} {fl:Bool} (hj:j=H.length):Own (H++[.row n els false fl j]):=fun i b hb=>by
  by_cases hi:i<H.length
  · rw[List.getElem?_append_left hi] at hb
    exact h i b hb
  · rw[List.getElem?_append_right (by omega)] at hb
    have hi0:i-H.length=0:=by
      have:=(List.getElem?_eq_some_iff.1 hb).1
      simp at this
      omega
    rw[hi0] at hb
    cases hb
    exact ⟨n, els, fl, by rw[show i=j by omega]⟩
theorem gP0 {H l:Heap} {b:Blk} {m:Nat} (h:m=H.length):(H++b::l)[m]?=some b:=by
  subst h
  rw[List.getElem?_append_right (Nat.le_refl _), Nat.sub_self]
  rfl
theorem sP0 {H l:Heap} {b x:Blk} {m:Nat} (h:m=H.length):(H++b::l).set m x=H++x::l:=by
  subst h
  rw[List.set_append_right _ _ (Nat.le_refl _), Nat.sub_self]
  rfl
theorem gL {H l:Heap} {m:Nat} (h:m<H.length):(H++l)[m]?=H[m]?:=List.getElem?_append_left h
theorem sL {H l:Heap} {m:Nat} {x:Blk} (h:m<H.length):(H++l).set m x=H.set m x++l:=List.set_append_left _ _ h
/-- The head of a loop, step by step. -/
theorem norm_to {live:List Nat} {tm tm':List AV} {Hp kept Hp':Heap} {ks:List Nat} {rb:Nat} (hr:reach Hp 0 4000 ((keepLive live 0 tm).flatMap (AV.refsN 6)) []=ks) (hk:(ks.map fun r=>Hp.getD r .gone)=kept) (hd:droppedGo ks Hp 0=[]) (hc:closedBy (renOf 0 ks) kept=true) (ht:(keepLive live 0 tm).map (AV.renN (renOf 0 ks) 6)=tm') (hh:kept.map (Blk.ren (renOf 0 ks) (famRen Hp 0 ks))=Hp'):St.norm live ⟨tm, Hp, 0, rb⟩=⟨tm', Hp', 0, 0⟩:=by
  unfold St.norm St.normTm
  simp only[List.take_zero, List.flatMap_nil, List.append_nil, hr]
  unfold St.normBy
  simp only[List.take_zero, List.nil_append, List.drop_zero, hk, hd, hc, ht]
  simp only[roFit, roMark, Bool.and_self, normIf, hh]
/-- Nothing that is held as a tree is dropped where nothing is held so. -/
theorem dropped_none (ks:List Nat) : ∀ (H:Heap) (j:Nat), (∀ b, b∈H→∀ n els fl fam, b ≠ .row n els true fl fam)→droppedGo ks H j=[]
  | [], _, _=>rfl
  | b::H, j, h=>by
    have ih:=dropped_none ks H (j+1) fun x hx=>h x (List.mem_cons_of_mem _ hx)
    cases b with
    | row n els ro fl fam=>
      cases ro with
      | true=>exact (h _ (List.mem_cons_self ..) n els fl fam rfl).elim
      | false=>exact ih
    | _=>exact ih
end Ago
/- automaton.Some: heads of loops over a heap that holds a row of rows. -/
set_option maxRecDepth 100000
set_option maxHeartbeats 8000000
namespace Ago
open Go (IntKind)
/-- What is reached from roots whose kids hold no references. -/
def rootsK (l:List (Nat × List Nat)):List Nat:=l.flatMap fun x=>x.1::x.2
theorem reach_roots {H:Heap} : ∀ (l:List (Nat × List Nat)) (k:Nat) (seen:List Nat), (∀ x, x∈l→(∃ b, H[x.1]?=some b∧b.refs=x.2)∧∀ r, r∈x.2→∃ b, H[r]?=some b∧b.refs=[])→(seen++rootsK l).Nodup→reach H 0 (k+1+(rootsK l).length) (l.map Prod.fst) seen=seen++rootsK l
  | [], k, seen, _, _=>by simp [rootsK, reach_end]
  | x::l, k, seen, h, hn=>by
    obtain ⟨⟨b, h1, h2⟩, h3⟩:=h x (List.mem_cons_self ..)
    have e:rootsK (x::l)=x.1::(x.2++rootsK l):=by simp [rootsK]
    rw[e] at hn ⊢
    have hn2:x.1∉seen:=fun hx=>by
      have:=(List.nodup_append.1 hn).2.2 _ hx x.1 (List.mem_cons_self ..)
      exact this rfl
    rw[List.length_cons, List.length_append, show k+1+(x.2.length+(rootsK l).length+1)=(k+1+(rootsK l).length+x.2.length)+1 by omega, List.map_cons, reach_one (Nat.zero_le _) hn2 h1, h2]
    have hn3:(seen++[x.1]++(x.2++rootsK l)).Nodup:=by simpa using hn
    have hn4:=(List.nodup_append.1 hn3)
    rw[reach_kids x.2 _ _ _ (fun r hr=>⟨Nat.zero_le _, h3 r hr⟩) (List.nodup_append.1 hn4.2.1).1 fun r hr hs=>hn4.2.2 r hs r (List.mem_append_left _ hr) rfl]
    rw[reach_roots l k (seen++[x.1]++x.2) (fun y hy=>h y (List.mem_cons_of_mem _ hy)) (by simpa using hn)]
    simp
def renC (f:Nat→Option Nat) (i:Nat):Blk→Blk
  | .row n els ro fl _=>.row n (if fl then els else els.map (AV.renN f 6)) ro fl i
  | b=>b
def keptC (f:Nat→Option Nat):Nat→Heap→Heap
  | _, []=>[]
  | i, b::l=>renC f i b::keptC f (i+1) l
theorem keptC_app (f:Nat→Option Nat) : ∀ (i:Nat) (a b:Heap), keptC f i (a++b)=keptC f i a++keptC f (i+a.length) b
  | i, [], b=>by simp [keptC]
  | i, x::a, b=>by
    simp only[List.cons_append, keptC, List.length_cons]
    rw[keptC_app f (i+1) a b, show i+1+a.length=i+(a.length+1) by omega]
/-- Families of one's own among what is kept. -/
theorem fam_one {Hp:Heap} {ks:List Nat} {fm:Nat→Nat} (hn:ks.Nodup) (hb : ∀ r, r∈ks→∃ n els fl, Hp[r]?=some (.row n els false fl (fm r))) (hf : ∀ r q, r∈ks→q∈ks→fm r=fm q→r=q) {i r:Nat} (h:ks[i]?=some r):famRen Hp 0 ks (fm r)=i:=by
  unfold famRen
  rw[if_neg (Nat.not_lt_zero _), Nat.zero_add]
  obtain ⟨hl, hv⟩:=List.getElem?_eq_some_iff.1 h
  rw[List.findIdx_eq hl]
  have hg : ∀ q, q∈ks→(Hp.getD q .gone).famOf=some (fm q):=fun q hq=>by
    obtain ⟨n, els, fl, e⟩:=hb q hq
    rw[List.getD_eq_getElem?_getD, e]
    rfl
  refine ⟨?_, fun j hj=>?_⟩
  · rw[hv, hg r (List.mem_of_getElem? h)]
    simp
  · have hjl:j<ks.length:=by omega
    have hne:ks[j]≠r:=fun e=>List.pairwise_iff_getElem.1 hn j i hjl hl hj (e.trans hv.symm)
    rw[hg _ (List.getElem_mem hjl)]
    have:fm ks[j]≠fm r:=fun e=>hne (hf _ _ (List.getElem_mem hjl) (List.mem_of_getElem? h) e)
    simpa using this
theorem ren_keptC {Hp:Heap} {ks:List Nat} {fm:Nat→Nat} (hn:ks.Nodup) (hb : ∀ r, r∈ks→∃ n els fl, Hp[r]?=some (.row n els false fl (fm r))) (hf : ∀ r q, r∈ks→q∈ks→fm r=fm q→r=q) : ∀ (l:List Nat) (i:Nat), (∀ j r, l[j]?=some r→ks[i+j]?=some r)→(l.map fun r=>Hp.getD r .gone).map (Blk.ren (renOf 0 ks) (famRen Hp 0 ks))=keptC (renOf 0 ks) i (l.map fun r=>Hp.getD r .gone)
  | [], _, _=>rfl
  | r::l, i, h=>by
    have ih:=ren_keptC hn hb hf l (i+1) fun j q hq=>by
      rw[show i+1+j=i+(j+1) by omega]
      exact h (j+1) q (by simpa using hq)
    have hr:ks[i]?=some r:=h 0 r rfl
    simp only[List.map_cons, keptC, ih]
    congr 1
    obtain ⟨n, els, fl, e⟩:=hb r (List.mem_of_getElem? hr)
    rw[List.getD_eq_getElem?_getD, e, Option.getD_some]
    simp only[Blk.ren, renC, fam_one hn hb hf hr]
/-- The head of a loop, by its roots. -/
theorem norm_roots {live:List Nat} {tm tm':List AV} {Hp Hp' kept:Heap} {l:List (Nat × List Nat)} {ks:List Nat} {rb:Nat} {fm:Nat→Nat} (hks:rootsK l=ks) (hro : ∀ b, b∈Hp→b.roB=false) (hL:(keepLive live 0 tm).flatMap (AV.refsN 6)=l.map Prod.fst) (hn:ks.Nodup) (hlen:ks.length<3999)
    (hl : ∀ x, x∈l→(∃ b, Hp[x.1]?=some b∧b.refs=x.2)∧∀ r, r∈x.2→∃ b, Hp[r]?=some b∧b.refs=[])
    (hb : ∀ r, r∈ks→∃ n els fl, Hp[r]?=some (.row n els false fl (fm r))) (hf : ∀ r q, r∈ks→q∈ks→fm r=fm q→r=q) (hk:(ks.map fun r=>Hp.getD r .gone)=kept)
    (ht:(keepLive live 0 tm).map (AV.renN (renOf 0 ks) 6)=tm') (hh:keptC (renOf 0 ks) 0 kept=Hp'):St.norm live ⟨tm, Hp, 0, rb⟩=⟨tm', Hp', 0, 0⟩:=by
  have hr:reach Hp 0 4000 ((keepLive live 0 tm).flatMap (AV.refsN 6)) []=ks:=by
    rw[hL]
    have:=reach_roots l (3999-ks.length) [] hl (by rw[hks]; simpa using hn)
    rw[hks, List.nil_append, show 3999-ks.length+1+ks.length=4000 by omega] at this
    exact this
  refine norm_to hr hk (dropped_none ks Hp 0 fun b hb n els fl fam e=>?_) ?_ ht ?_
  · have:=hro b hb
    rw[e] at this
    cases this
  · unfold closedBy
    rw[List.all_eq_true]
    intro b hbm
    rw[List.all_eq_true]
    intro q hq
    rw[←hk] at hbm
    obtain ⟨r, hrk, e⟩:=List.mem_map.1 hbm
    have hqk:q∈ks:=by
      rw[←hks] at hrk ⊢
      unfold rootsK at hrk ⊢
      obtain ⟨x, hx, hrx⟩:=List.mem_flatMap.1 hrk
      obtain ⟨⟨c, c1, c2⟩, c3⟩:=hl x hx
      rcases List.mem_cons.1 hrx with h1 | h1
      · subst h1
        rw[List.getD_eq_getElem?_getD, c1, Option.getD_some] at e
        subst e
        rw[c2] at hq
        exact List.mem_flatMap.2 ⟨x, hx, List.mem_cons_of_mem _ hq⟩
      · obtain ⟨d, d1, d2⟩:=c3 r h1
        rw[List.getD_eq_getElem?_getD, d1, Option.getD_some] at e
        subst e
        rw[d2] at hq
        cases hq
    obtain ⟨i, hi⟩:=List.getElem?_of_mem hqk
    rw[renOf_at hn hi]
    rfl
  · rw[←hk, ren_keptC hn hb hf ks 0 (fun j r h=>by rw[Nat.zero_add]; exact h), hk, hh]
end Ago
/- automaton.Some: the heap at its heads. -/
set_option maxRecDepth 100000
set_option maxHeartbeats 8000000
namespace Ago
open Go (IntKind)
def rowB (m:List Sta) (i j:Nat):Blk:=.row 1 ((rowM m i).map .bool) false true j
def rowsH (m:List Sta):Nat→Nat→Nat→Heap
  | _, _, 0=>[]
  | j, i, k+1=>rowB m i j::rowsH m (j+1) (i+1) k
def refsL (L:Nat) (l:List Nat):List AV:=l.map fun r=>.sref 1 r 0 L
def wB (m:List Sta) (d k:Nat):Heap:=if k=0 then [] else .row 1 (refsL m.length (List.range' (d+1) k)) false false d::rowsH m (d+1) 0 k
def wV (d k:Nat):AV:=if k=0 then .snil 1 else .sref 1 d 0 k
def oB (els:List AV):Heap:=if els=[] then [] else [.row 1 els false true 1]
def oV (els:List AV):AV:=if els=[] then .snil 1 else .sref 1 1 0 els.length
def dW (els:List AV):Nat:=if els=[] then 1 else 2
def xB:Nat→List (Nat × List AV)→Heap
  | _, []=>[]
  | j, x::l=>.row 1 x.2 false true j::xB (j+1) l
def KH (m:List Sta) (els:List AV) (k:Nat):Heap:=mBox m 0::(oB els++wB m (dW els) k)
theorem rowsH_len (m:List Sta) : ∀ j i k, (rowsH m j i k).length=k
  | _, _, 0=>rfl
  | j, i, k+1=>by simp [rowsH, rowsH_len m (j+1) (i+1) k]
theorem rowsH_at (m:List Sta) : ∀ j i k q, q<k→(rowsH m j i k)[q]?=some (rowB m (i+q) (j+q))
  | _, _, 0, q, h=>by omega
  | j, i, k+1, 0, h=>rfl
  | j, i, k+1, q+1, h=>by
    rw[rowsH, List.getElem?_cons_succ, rowsH_at m (j+1) (i+1) k q (by omega)]
    congr 2<;>omega
def lenW (k:Nat):Nat:=if k=0 then 0 else k+1
theorem wB_len (m:List Sta) (d k:Nat):(wB m d k).length=lenW k:=by
  unfold wB lenW
  split
  · rfl
  · simp [rowsH_len]
theorem KH_len (m:List Sta) (els:List AV) (k:Nat):(KH m els k).length=dW els+lenW k:=by
  unfold KH oB dW
  rw[List.length_cons, List.length_append, wB_len]
  split<;>simp<;>omega
theorem kept_rows {m:List Sta} {H:Heap} {f:Nat→Option Nat} : ∀ (prs:List Nat) (j i:Nat), (∀ q r, prs[q]?=some r→H[r]?=some (rowB m (i+q) r))→keptC f j (prs.map fun r=>H.getD r .gone)=rowsH m j i prs.length
  | [], _, _, _=>rfl
  | r::l, j, i, h=>by
    have h0:=h 0 r rfl
    rw[List.map_cons, keptC, kept_rows l (j+1) (i+1) fun q x hx=>by
      have:=h (q+1) x (by simpa using hx)
      rw[this]
      congr 2
      omega]
    rw[List.getD_eq_getElem?_getD, h0]
    rfl
theorem kept_xs {H:Heap} {f:Nat→Option Nat} : ∀ (X:List (Nat × List AV)) (j:Nat), (∀ x, x∈X→H[x.1]?=some (.row 1 x.2 false true x.1))→keptC f j ((X.map Prod.fst).map fun r=>H.getD r .gone)=xB j X
  | [], _, _=>rfl
  | x::l, j, h=>by
    rw[List.map_cons, List.map_cons, keptC, kept_xs l (j+1) fun y hy=>h y (List.mem_cons_of_mem _ hy)]
    rw[List.getD_eq_getElem?_getD, h x (List.mem_cons_self ..)]
    rfl
theorem refsL_refs (L:Nat) (l:List Nat):(refsL L l).flatMap (AV.refsN 6)=l:=by
  induction l with
  | nil=>rfl
  | cons r l ih=>
    rw[refsL, List.map_cons, List.flatMap_cons]
    unfold refsL at ih
    rw[ih]
    rfl
theorem refsL_ren {f:Nat→Option Nat} (L:Nat) : ∀ (l:List Nat) (d:Nat), (∀ q r, l[q]?=some r→f r=some (d+q))→(refsL L l).map (AV.renN f 6)=refsL L (List.range' d l.length)
  | [], d, h=>rfl
  | r::l, d, h=>by
    have h0:=h 0 r rfl
    have ih:=refsL_ren (f:=f) L l (d+1) fun q x hx=>by
      rw[h (q+1) x (by simpa using hx)]
      congr 1
      omega
    rw[List.length_cons, List.range'_succ]
    unfold refsL at ih ⊢
    rw[List.map_cons, List.map_cons, List.map_cons, ih]
    simp only[AV.renN, h0, Nat.add_zero]
def oN (els:List AV) (po:Nat):List Nat:=if els=[] then [] else [po]
def wN (k pw:Nat) (prs:List Nat):List Nat:=if k=0 then [] else pw::prs
/-- The head of a loop of Some. -/
theorem norm_some {m:List Sta} {live:List Nat} {tm tm':List AV} {H:Heap} {els:List AV} {k po fo pw fw rb:Nat} {prs:List Nat} {X:List (Nat × List AV)} (hpl:prs.length=k) (hro : ∀ b, b∈H→b.roB=false)
    (h0:H[0]?=some (mBox m 0)) (ho:els≠[]→H[po]?=some (.row 1 els false true fo)) (hw:k≠0→H[pw]?=some (.row 1 (refsL m.length prs) false false fw)) (hr : ∀ q r, prs[q]?=some r→H[r]?=some (rowB m q r)) (hX : ∀ x, x∈X→H[x.1]?=some (.row 1 x.2 false true x.1))
    (hn:(0::(oN els po++(wN k pw prs++X.map Prod.fst))).Nodup) (hfn:(0::(oN els fo++(wN k fw prs++X.map Prod.fst))).Nodup) (hlen:k+X.length<3900)
    (hL:(keepLive live 0 tm).flatMap (AV.refsN 6)=0::(oN els po++(wN k pw []++X.map Prod.fst)))
    (ht : ∀ f:Nat→Option Nat, f 0=some 0→(els≠[]→f po=some 1)→(k≠0→f pw=some (dW els))→(∀ q x, X[q]?=some x→f x.1=some ((KH m els k).length+q))→(keepLive live 0 tm).map (AV.renN f 6)=tm') :
    St.norm live ⟨tm, H, 0, rb⟩=⟨tm', KH m els k++xB (KH m els k).length X, 0, 0⟩:=by
  obtain ⟨ks, hks⟩ : ∃ ks, 0::(oN els po++(wN k pw prs++X.map Prod.fst))=ks:=⟨_, rfl⟩
  have hnk:=hn
  rw[hks] at hnk
  have hoL:(oN els po).length=dW els-1:=by unfold oN dW; split<;>rfl
  have hd1:1≤dW els:=by unfold dW; split<;>omega
  have hwL:(wN k pw prs).length=lenW k:=by
    unfold wN lenW
    split
    · rfl
    · simp [hpl]
  have r0:renOf 0 ks 0=some 0:=renOf_at hnk (by rw[←hks]; rfl)
  have r1:els≠[]→renOf 0 ks po=some 1:=fun h=>renOf_at hnk (by rw[←hks]; simp [oN, h])
  have r2:k≠0→renOf 0 ks pw=some (dW els):=fun h=>renOf_at hnk (by
    rw[←hks, show dW els=(dW els-1)+1 by omega, List.getElem?_cons_succ, List.getElem?_append_right (by omega), hoL, Nat.sub_self]
    simp [wN, h])
  have r3 : ∀ q r, prs[q]?=some r→renOf 0 ks r=some (dW els+1+q):=fun q r hq=>renOf_at hnk (by
    have hql:=(List.getElem?_eq_some_iff.1 hq).1
    have hk:k≠0:=by omega
    rw[←hks, show dW els+1+q=(dW els-1+(q+1))+1 by omega, List.getElem?_cons_succ, List.getElem?_append_right (by omega), hoL, Nat.add_sub_cancel_left]
    rw[List.getElem?_append_left (by rw[hwL, lenW, if_neg hk]; omega)]
    simp [wN, hk, hq])
  have r4 : ∀ q x, X[q]?=some x→renOf 0 ks x.1=some ((KH m els k).length+q):=fun q x hq=>renOf_at hnk (by
    rw[←hks, KH_len, show dW els+lenW k+q=(dW els-1+(lenW k+q))+1 by omega, List.getElem?_cons_succ, List.getElem?_append_right (by omega), hoL, Nat.add_sub_cancel_left]
    rw[List.getElem?_append_right (by omega), hwL, Nat.add_sub_cancel_left]
    simp [hq])
  have hrefs:Blk.refs (.row 1 (refsL m.length prs) false false fw)=prs:=refsL_refs m.length prs
  refine norm_roots (l:=(0, [])::((oN els po).map (·, [])++((wN k pw []).map (·, prs)++X.map fun x=>(x.1, [])))) (ks:=ks) (fm:=fun r=>((H.getD r .gone).famOf).getD 0) ?_ hro ?_ hnk ?_ ?_ ?_ ?_ rfl (ht _ r0 r1 r2 r4) ?_
  · rw[←hks]
    unfold rootsK
    rw[List.flatMap_cons, List.flatMap_append, List.flatMap_append]
    unfold oN wN
    have e:(X.map fun x=>(x.1, ([]:List Nat))).flatMap (fun x=>x.1::x.2)=X.map Prod.fst:=by
      clear hX hn hfn hlen hL ht r4 hks
      induction X with
      | nil=>rfl
      | cons x l ih=>rw[List.map_cons, List.flatMap_cons, ih]; rfl
    rw[e]
    split<;>split<;>simp
  · rw[hL]
    unfold oN wN
    have e:(X.map fun x=>(x.1, ([]:List Nat))).map Prod.fst=X.map Prod.fst:=by simp
    rw[List.map_cons, List.map_append, List.map_append, e]
    split<;>split<;>simp
  · rw[←hks, List.length_cons, List.length_append, List.length_append, hoL, hwL, List.length_map]
    have:dW els≤2:=by unfold dW; split<;>omega
    have:lenW k≤k+1:=by unfold lenW; split<;>omega
    omega
  · intro x hx
    rcases List.mem_cons.1 hx with rfl | hx
    · exact ⟨⟨_, h0, rfl⟩, fun r hr=>by cases hr⟩
    · rcases List.mem_append.1 hx with hx | hx
      · obtain ⟨r, hr1, rfl⟩:=List.mem_map.1 hx
        unfold oN at hr1
        split at hr1
        · cases hr1
        · rename_i he
          rw[List.mem_singleton.1 hr1]
          exact ⟨⟨_, ho he, rfl⟩, fun r hr=>by cases hr⟩
      · rcases List.mem_append.1 hx with hx | hx
        · obtain ⟨r, hr1, rfl⟩:=List.mem_map.1 hx
          unfold wN at hr1
          split at hr1
          · cases hr1
          · rename_i he
            rw[List.mem_singleton.1 hr1]
            refine ⟨⟨_, hw he, hrefs⟩, fun r hr2=>?_⟩
            obtain ⟨q, hq⟩:=List.getElem?_of_mem hr2
            exact ⟨_, hr q r hq, rfl⟩
        · obtain ⟨y, hy, rfl⟩:=List.mem_map.1 hx
          exact ⟨⟨_, hX y hy, rfl⟩, fun r hr=>by cases hr⟩
  · intro r hrk
    have key : ∀ {n els fl fam}, H[r]?=some (Blk.row n els false fl fam)→∃ n els fl, H[r]?=some (Blk.row n els false fl (((H.getD r .gone).famOf).getD 0)):=fun {n els fl fam} h=>⟨n, els, fl, by rw[List.getD_eq_getElem?_getD, h]; rfl⟩
    rw[←hks] at hrk
    rcases List.mem_cons.1 hrk with rfl | hx
    · exact key h0
    · rcases List.mem_append.1 hx with hx | hx
      · unfold oN at hx
        split at hx
        · cases hx
        · rename_i he
          rw[List.mem_singleton.1 hx] at key ⊢
          exact key (ho he)
      · rcases List.mem_append.1 hx with hx | hx
        · unfold wN at hx
          split at hx
          · cases hx
          · rename_i he
            rcases List.mem_cons.1 hx with rfl | hx
            · exact key (hw he)
            · obtain ⟨q, hq⟩:=List.getElem?_of_mem hx
              exact key (hr q r hq)
        · obtain ⟨y, hy, rfl⟩:=List.mem_map.1 hx
          exact key (hX y hy)
  · have e:(ks.map fun r=>((H.getD r .gone).famOf).getD 0)=0::(oN els fo++(wN k fw prs++X.map Prod.fst)):=by
      rw[←hks, List.map_cons, List.map_append, List.map_append, getD_of h0]
      congr 1
      congr 1
      · unfold oN
        split
        · rfl
        · rename_i he
          rw[List.map_cons, getD_of (ho he)]
          rfl
      · congr 1
        · unfold wN
          split
          · rfl
          · rename_i he
            rw[List.map_cons, getD_of (hw he)]
            congr 1
            have : ∀ r, r∈prs→((H.getD r .gone).famOf).getD 0=id r:=fun r hr2=>by
              obtain ⟨q, hq⟩:=List.getElem?_of_mem hr2
              rw[getD_of (hr q r hq)]
              rfl
            rw[List.map_congr_left this, List.map_id]
        · rw[List.map_map]
          refine List.map_congr_left fun x hx=>?_
          show ((H.getD x.1 .gone).famOf).getD 0=_
          rw[getD_of (hX x hx)]
          rfl
    rw[←e] at hfn
    intro r q h1 h2 h3
    obtain ⟨i, hi⟩:=List.getElem?_of_mem h1
    obtain ⟨j, hj⟩:=List.getElem?_of_mem h2
    obtain ⟨hil, hiv⟩:=List.getElem?_eq_some_iff.1 hi
    obtain ⟨hjl, hjv⟩:=List.getElem?_eq_some_iff.1 hj
    have pw:=List.pairwise_iff_getElem.1 hfn
    rcases Nat.lt_trichotomy i j with h | h | h
    · exact (pw i j (by simpa using hil) (by simpa using hjl) h (by simp only[List.getElem_map, hiv, hjv]; exact h3)).elim
    · subst h
      exact hiv.symm.trans hjv
    · exact (pw j i (by simpa using hjl) (by simpa using hil) h (by simp only[List.getElem_map, hiv, hjv]; exact h3.symm)).elim
  · rw[←hks, List.map_cons, List.map_append, List.map_append, getD_of h0, keptC, keptC_app, keptC_app, kept_xs X _ hX, hks]
    rw[List.length_map, List.length_map, hoL, hwL, show 0+1+(dW els-1)=dW els by omega, ← KH_len m els k]
    unfold KH
    rw[List.cons_append, List.append_assoc]
    congr 1
    congr 1
    · unfold oN oB
      split
      · rfl
      · rename_i he
        rw[List.map_cons, getD_of (ho he)]
        rfl
    · congr 1
      unfold wN wB
      split
      · rfl
      · rename_i he
        rw[List.map_cons, getD_of (hw he), keptC, kept_rows prs _ 0 fun q r h=>by rw[Nat.zero_add]; exact hr q r h, hpl]
        simp only[renC, if_neg Bool.false_ne_true]
        rw[refsL_ren m.length prs (dW els+1) fun q r h=>by rw[r3 q r h], hpl]
end Ago
/- automaton.Some: facts about the heap at its heads; the plain law. -/
set_option maxRecDepth 100000
set_option maxHeartbeats 8000000
namespace Ago
open Go (IntKind)
def someP (m:List Sta) (n:Nat):Nat→List (List UInt8)→Nat→Nat→List (List UInt8)
  | 0, out, _, _=>out
  | f+1, out, s, k=>if out.length<n∧s≤m.length then
      someP m n f (out++(allS m k 0).take (n-out.length)) (if (allS m k 0).take (n-out.length)=[] then s+1 else 1) (k+1) else out
theorem take_nil {l:List (List UInt8)} {n o:Nat} (h:o<n) (e:l=[]):l.take (n-o)=[]:=by rw[e]; exact List.take_nil
theorem someP_stop {m:List Sta} {n:Nat} : ∀ (F:Nat) {out:List (List UInt8)} {s k:Nat}, ¬ (out.length<n∧s≤m.length)→someP m n F out s k=out
  | 0, _, _, _, _=>rfl
  | F+1, _, _, _, h=>if_neg h
theorem someR_stop {m:List Sta} {n:Nat} : ∀ (F:Nat) {out:List (List UInt8)} {s k:Nat}, ¬ (out.length<n∧s≤m.length)→someR m n F out s k=out
  | 0, _, _, _, _=>rfl
  | F+1, _, _, _, h=>if_neg h
theorem someP_go {m:List Sta} {n F:Nat} {out:List (List UInt8)} {s k:Nat} (h:out.length<n∧s≤m.length):someP m n (F+1) out s k=someP m n F (out++(allS m k 0).take (n-out.length)) (if (allS m k 0).take (n-out.length)=[] then s+1 else 1) (k+1):=if_pos h
theorem someR_go {m:List Sta} {n F:Nat} {out:List (List UInt8)} {s k:Nat} (h:out.length<n∧s≤m.length):someR m n (F+1) out s k=someR m n F (out++(allS m k 0).take (n-out.length)) (if (allS m k 0).take (n-out.length)=[] then s+1 else 0) (k+1):=if_pos h
theorem some_found {m:List Sta} (hv:validM m=true) (n:Nat) : ∀ (F:Nat) (out:List (List UInt8)) (no k:Nat), no≤m.length→no+1≤k→(∀ j, k<j+(no+1)→j<k→allS m j 0=[])→someP m n F out (no+1) k=someR m n F out no k
  | 0, _, _, _, _, _, _=>rfl
  | F+1, out, no, k, h1, h2, h3=>by
    have hv1:=valid_len hv
    by_cases ho:out.length<n
    · rw[someR_go ⟨ho, h1⟩]
      by_cases hs:no+1≤m.length
      · rw[someP_go ⟨ho, hs⟩]
        by_cases hl:(allS m k 0).take (n-out.length)=[]
        · rw[if_pos hl, if_pos hl]
          have hk:allS m k 0=[]:=by
            rcases List.take_eq_nil_iff.1 hl with h | h
            · omega
            · exact h
          refine some_found hv n F _ (no+1) (k+1) hs (by omega) fun j a b=>?_
          by_cases hjk:j=k
          · rw[hjk, hk]
          · exact h3 j (by omega) (by omega)
        · rw[if_neg hl, if_neg hl]
          exact some_found hv n F _ 0 (k+1) (Nat.zero_le _) (by omega) fun j a b=>by omega
      · have hno:no=m.length:=by omega
        rw[someP_stop _ (by omega)]
        have hk:allS m k 0=[]:=by
          have:=pump hv (q:=0) (L:=k-no-1) (by omega) fun j a b=>h3 j (by omega) (by omega)
          rwa [show k-no-1+m.length+1=k by omega] at this
        have hl:=take_nil ho hk
        rw[hl, if_pos rfl, List.append_nil, someR_stop _ (by omega)]
    · rw[someP_stop _ fun h=>ho h.1, someR_stop _ fun h=>ho h.1]
theorem some_same {m:List Sta} (hv:validM m=true) (n:Nat) : ∀ (F:Nat) (out:List (List UInt8)) (s k:Nat), someP m n F out s k=someR m n F out s k
  | 0, _, _, _=>rfl
  | F+1, out, s, k=>by
    by_cases h:out.length<n∧s≤m.length
    · rw[someR_go h, someP_go h]
      by_cases hl:(allS m k 0).take (n-out.length)=[]
      · rw[if_pos hl, if_pos hl]
        exact some_same hv n F _ _ _
      · rw[if_neg hl, if_neg hl]
        exact some_found hv n F _ 0 (k+1) (Nat.zero_le _) (by omega) fun j a b=>by omega
    · rw[someP_stop _ h, someR_stop _ h]
theorem mu_one {m:List Sta} {n no:Nat} {out l:List (List UInt8)} (h:out.length<n) (hl:l≠[]):muS m n (out++l) 1<muS m n out no:=by
  have:=mu_cons (m:=m) (no:=no) h hl
  unfold muS at this ⊢
  omega
structure SomeJ (m:List Sta) (n:Nat) (R:List (List UInt8)) (B:Nat) (a:List (List UInt8) × Nat × Nat):Prop where
  res : ∃ F, muS m n a.1 a.2.1<F∧someP m n F a.1 a.2.1 a.2.2=R
  bnd:a.2.2+muS m n a.1 a.2.1≤B
  len:a.1.length≤n
theorem SomeJ.init (m:List Sta) (n:Nat):SomeJ m n (someP m n (muS m n [] 0+1) [] 0 0) (muS m n [] 0) ([], 0, 0):=⟨⟨_, Nat.lt_succ_self _, rfl⟩, by simp, Nat.zero_le _⟩
theorem SomeJ.step {m:List Sta} {n B:Nat} {R:List (List UInt8)} {a:List (List UInt8) × Nat × Nat} (h:SomeJ m n R B a) (h1:a.1.length<n) (h2:a.2.1≤m.length) {l:List (List UInt8)} (hl:(allS m a.2.2 0).take (n-a.1.length)=l) :
    SomeJ m n R B (a.1++l, (if l=[] then a.2.1+1 else 1), a.2.2+1)∧muS m n (a.1++l) (if l=[] then a.2.1+1 else 1)<muS m n a.1 a.2.1:=by
  obtain ⟨out, no, k⟩:=a
  dsimp only at *
  have hmu:muS m n (out++l) (if l=[] then no+1 else 1)<muS m n out no:=by
    by_cases he:l=[]
    · rw[if_pos he, he, List.append_nil]
      exact mu_nil h2
    · rw[if_neg he]
      exact mu_one h1 he
  obtain ⟨⟨F, f1, f2⟩, b1, b2⟩:=h
  dsimp only at f1 f2 b1 b2
  refine ⟨⟨?_, by dsimp only; omega, ?_⟩, hmu⟩
  · cases F with
    | zero=>omega
    | succ F=>
      refine ⟨F, by dsimp only; omega, ?_⟩
      dsimp only
      rw[←f2, someP_go ⟨h1, h2⟩, hl]
  · dsimp only
    rw[List.length_append, ← hl, List.length_take]
    omega
theorem SomeJ.done {m:List Sta} {n B:Nat} {R:List (List UInt8)} {a:List (List UInt8) × Nat × Nat} (h:SomeJ m n R B a) (h1 : ¬ (a.1.length<n∧a.2.1≤m.length)):R=a.1:=by
  obtain ⟨⟨F, f1, f2⟩, _, _⟩:=h
  rw[←f2, someP_stop _ h1]
theorem SomeJ.same {m:List Sta} (hv:validM m=true) (n:Nat):SomeJ m n (refSomeM m n) (muS m n [] 0) ([], 0, 0):=by
  have:=SomeJ.init m n
  rw[some_same hv] at this
  exact this
/-! ### The heap -/
theorem KH_zero (m:List Sta) (els:List AV) (k:Nat):(KH m els k)[0]?=some (mBox m 0):=rfl
theorem oB_len (els:List AV):(oB els).length=dW els-1:=by unfold oB dW; split<;>rfl
theorem dW_pos (els:List AV):1≤dW els:=by unfold dW; split<;>omega
theorem KH_out {m:List Sta} {els:List AV} {k:Nat} (h:els≠[]):(KH m els k)[1]?=some (.row 1 els false true 1):=by
  unfold KH oB
  rw[if_neg h]
  rfl
theorem KH_wit {m:List Sta} {els:List AV} {k:Nat} (h:k≠0):(KH m els k)[dW els]?=some (.row 1 (refsL m.length (List.range' (dW els+1) k)) false false (dW els)):=by
  have:=dW_pos els
  unfold KH
  rw[show (mBox m 0::(oB els++wB m (dW els) k))[dW els]?=(mBox m 0::(oB els++wB m (dW els) k))[(dW els-1)+1]? by rw[Nat.sub_add_cancel this], List.getElem?_cons_succ, List.getElem?_append_right (by rw[oB_len]; exact Nat.le_refl _), oB_len, Nat.sub_self]
  unfold wB
  rw[if_neg h]
  rfl
theorem KH_row {m:List Sta} {els:List AV} {k q:Nat} (h:q<k):(KH m els k)[dW els+1+q]?=some (rowB m q (dW els+1+q)):=by
  have:=dW_pos els
  unfold KH
  rw[show dW els+1+q=(dW els-1+(q+1))+1 by omega, List.getElem?_cons_succ, List.getElem?_append_right (by rw[oB_len]; omega), oB_len, Nat.add_sub_cancel_left]
  unfold wB
  rw[if_neg (by omega), List.getElem?_cons_succ, rowsH_at m _ 0 k q h]
  congr 2<;>omega
theorem KH_own (m:List Sta) (els:List AV) (k:Nat):Own (KH m els k):=fun j b hb=>by
  have hd:=dW_pos els
  have hl:=KH_len m els k
  have hjl:=(List.getElem?_eq_some_iff.1 hb).1
  by_cases h0:j=0
  · subst h0
    rw[KH_zero] at hb
    cases hb
    exact ⟨_, _, _, rfl⟩
  · by_cases h1:j<dW els
    · have he:els≠[]:=fun e=>by rw[e] at h1; simp [dW] at h1; omega
      have h2:j=1:=by
        have:dW els≤2:=by unfold dW; split<;>omega
        omega
      subst h2
      rw[KH_out he] at hb
      cases hb
      exact ⟨_, _, _, rfl⟩
    · have hk:k≠0:=fun e=>by
        subst e
        simp [lenW] at hl
        omega
      by_cases h2:j=dW els
      · subst h2
        rw[KH_wit hk] at hb
        cases hb
        exact ⟨_, _, _, rfl⟩
      · have hq:j=dW els+1+(j-dW els-1):=by omega
        rw[hq, KH_row (by unfold lenW at hl; rw[if_neg hk] at hl; omega)] at hb
        cases hb
        exact ⟨1, (rowM m (j-dW els-1)).map .bool, true, by rw[←hq]; rfl⟩
theorem Own.ro {H:Heap} (h:Own H) : ∀ b, b∈H→b.roB=false:=fun b hb=>by
  obtain ⟨j, hj⟩:=List.getElem?_of_mem hb
  obtain ⟨n, els, fl, rfl⟩:=h j b hj
  rfl
theorem range_nd (a k:Nat):(List.range' a k).Nodup:=List.nodup_range'
theorem nd_app {l:List Nat} {x:Nat} (h:l.Nodup) (hx:x∉l):(l++[x]).Nodup:=by
  rw[List.nodup_append]
  exact ⟨h, by simp, fun a ha b hb=>by rw[List.mem_singleton.1 hb]; exact fun e=>hx (e▸ha)⟩
/-- What is reached, in whatever order, is told apart. -/
theorem nd_ks {els:List AV} {k po pw:Nat} {prs xs:List Nat} (hpr:prs.Nodup) (hxs:xs.Nodup) (h0:els≠[]→po≠0) (h1:k≠0→pw≠0) (h2:els≠[]→k≠0→po≠pw) (h3 : ∀ r, r∈prs→r≠0∧r≠pw∧(els≠[]→r≠po)) (h4 : ∀ r, r∈xs→r≠0∧(k≠0→r≠pw)∧(els≠[]→r≠po)) (h5:k≠0→∀ r, r∈xs→r∉prs) :
    (0::(oN els po++(wN k pw prs++xs))).Nodup:=by
  have hw:(wN k pw prs++xs).Nodup:=by
    unfold wN
    split
    · simpa using hxs
    · rename_i hk
      rw[List.nodup_append]
      refine ⟨List.nodup_cons.2 ⟨fun h=>(h3 _ h).2.1 rfl, hpr⟩, hxs, fun a ha b hb e=>?_⟩
      subst e
      rcases List.mem_cons.1 ha with rfl | ha
      · exact (h4 _ hb).2.1 hk rfl
      · exact h5 hk _ hb ha
  have hm : ∀ r, r∈wN k pw prs++xs→r≠0∧(els≠[]→r≠po):=fun r hr=>by
    rcases List.mem_append.1 hr with hr | hr
    · unfold wN at hr
      split at hr
      · cases hr
      · rename_i hk
        rcases List.mem_cons.1 hr with rfl | hr
        · exact ⟨h1 hk, fun he=>(h2 he hk).symm⟩
        · exact ⟨(h3 r hr).1, (h3 r hr).2.2⟩
    · exact ⟨(h4 r hr).1, (h4 r hr).2.2⟩
  refine List.nodup_cons.2 ⟨fun h=>?_, ?_⟩
  · rcases List.mem_append.1 h with h | h
    · unfold oN at h
      split at h
      · cases h
      · rename_i he
        exact h0 he (List.mem_singleton.1 h).symm
    · exact (hm 0 h).1 rfl
  · unfold oN
    split
    · simpa using hw
    · rename_i he
      rw[List.singleton_append]
      exact List.nodup_cons.2 ⟨fun h=>(hm po h).2 he rfl, hw⟩
theorem oV_refs (els:List AV):AV.refsN 6 (oV els)=oN els 1:=by unfold oV oN; split<;>rfl
theorem wV_refs (d k:Nat):AV.refsN 6 (wV d k)=wN k d []:=by unfold wV wN; split<;>rfl
theorem oV_ren {f:Nat→Option Nat} (els:List AV) (h:els≠[]→f 1=some 1):AV.renN f 6 (oV els)=oV els:=by
  unfold oV
  split
  · rfl
  · rename_i he
    simp only[AV.renN, h he]
theorem wV_ren {f:Nat→Option Nat} (d k:Nat) (h:k≠0→f d=some d):AV.renN f 6 (wV d k)=wV d k:=by
  unfold wV
  split
  · rfl
  · rename_i he
    simp only[AV.renN, h he]
/-- The head of an inner loop. -/
theorem norm_in {m:List Sta} {live:List Nat} {tm:List AV} {els bs:List AV} {k rb:Nat} {K E:Heap} (hK:KH m els k=K) (hk:k<3800) (hE : ∀ b, b∈E→b.roB=false)
    (hL:(keepLive live 0 tm).flatMap (AV.refsN 6)=0::(oN els 1++(wN k (dW els) []++[K.length])))
    (ht : ∀ f:Nat→Option Nat, f 0=some 0→(els≠[]→f 1=some 1)→(k≠0→f (dW els)=some (dW els))→f K.length=some K.length→(keepLive live 0 tm).map (AV.renN f 6)=keepLive live 0 tm) :
    St.norm live ⟨tm, K ++ .row 1 bs false true K.length::E, 0, rb⟩=⟨keepLive live 0 tm, K++[.row 1 bs false true K.length], 0, 0⟩:=by
  have hl:=KH_len m els k
  have hd:=dW_pos els
  have hd2:dW els≤2:=by unfold dW; split<;>omega
  have ho:=KH_own m els k
  have hde:els≠[]→dW els=2:=fun h=>if_neg h
  have hlw:k≠0→lenW k=k+1:=fun h=>if_neg h
  rw[hK] at hl ho
  have hkl:k≠0→K.length=dW els+k+1:=fun h=>by rw[hl, hlw h]; omega
  have hnd:(0::(oN els 1++(wN k (dW els) (List.range' (dW els+1) k)++[(K.length, bs)].map Prod.fst))).Nodup:=by
    refine nd_ks (range_nd _ _) (by simp) (fun _=>by omega) (fun _=>by omega) (fun h _=>by rw[hde h]; omega) (fun r hr=>?_) (fun r hr=>?_) (fun hk0 r hr h=>?_)
    · have:=List.mem_range'_1.1 hr
      exact ⟨by omega, by omega, fun _=>by omega⟩
    · have:r=K.length:=by simpa using hr
      subst this
      exact ⟨by omega, fun h=>by have:=hkl h; omega, fun h=>by have:=hde h; omega⟩
    · have h1:r=K.length:=by simpa using hr
      have h2:=List.mem_range'_1.1 h
      have:=hkl hk0
      omega
  have hget : ∀ j b, K[j]?=some b→(K ++ .row 1 bs false true K.length::E)[j]?=some b:=fun j b h=>by
    rw[List.getElem?_append_left (List.getElem?_eq_some_iff.1 h).1]
    exact h
  have:=norm_some (m:=m) (live:=live) (tm:=tm) (tm':=keepLive live 0 tm) (H:=K ++ .row 1 bs false true K.length::E) (els:=els) (k:=k) (po:=1) (fo:=1) (pw:=dW els) (fw:=dW els) (rb:=rb) (prs:=List.range' (dW els+1) k) (X:=[(K.length, bs)]) (List.length_range' ..) (ro_app ho.ro (ro_cons rfl hE))
    (hget _ _ (by rw[←hK]; exact KH_zero m els k)) (fun h=>hget _ _ (by rw[←hK]; exact KH_out h)) (fun h=>hget _ _ (by rw[←hK]; exact KH_wit h)) (fun q r hq=>by
      have hq1:=(List.getElem?_eq_some_iff.1 hq).1
      rw[List.length_range'] at hq1
      have hr:r=dW els+1+q:=by
        rw[List.getElem?_range' hq1] at hq
        simp at hq
        omega
      subst hr
      exact hget _ _ (by rw[←hK]; exact KH_row hq1)) (fun x hx=>by
      rw[List.mem_singleton.1 hx, List.getElem?_append_right (Nat.le_refl _), Nat.sub_self]
      rfl) hnd hnd (by simp; omega) hL (fun f f0 f1 f2 f3=>ht f f0 f1 f2 (by
        have:=f3 0 _ rfl
        rw[hK] at this
        exact this))
  rw[this, hK]
  rfl
end Ago
/- automaton.Some: slots of its loops, rows that are being filled. -/
set_option maxRecDepth 100000
set_option maxHeartbeats 16000000
namespace Ago
open Go (IntKind)
def T0 (N:Nat) (o w:AV) (s:Nat):List AV:=slots 93 [(1, .int .i64 N), (2, .ptr 1 0 0 0), (5, o), (6, w), (7, .int .i64 s)]
def T2 (m:List Sta) (N:Nat) (o w:AV) (s p q:Nat):List AV:=slots 93 [(1, .int .i64 N), (2, .ptr 1 0 0 0), (5, o), (6, w), (7, .int .i64 s), (8, .sref 1 p 0 m.length), (37, .tsl 2 (m.map encSta)), (38, .int .i64 m.length), (39, .int .i64 q)]
def T3 (m:List Sta) (N:Nat) (o w:AV) (s p q:Nat) (arcs:List Arc) (j:Nat):List AV:=slots 93 [(1, .int .i64 N), (2, .ptr 1 0 0 0), (5, o), (6, w), (7, .int .i64 s), (8, .sref 1 p 0 m.length), (9, .int .i64 q), (37, .tsl 2 (m.map encSta)), (38, .int .i64 m.length), (39, .int .i64 q), (53, .tsl 3 (arcs.map encArc)), (54, .int .i64 arcs.length), (55, .int .i64 j)]
theorem lenL_o (els:List AV):xLenL [oV els]=some (.int .i64 els.length):=by
  unfold oV
  split
  · rename_i h
    subst h
    rfl
  · rfl
theorem T2_refs (m:List Sta) (N:Nat) (els:List AV) (k s p q:Nat):(T2 m N (oV els) (wV (dW els) k) s p q).flatMap (AV.refsN 6)=0::(oN els 1++(wN k (dW els) []++[p])):=by
  rw[←oV_refs, ← wV_refs]
  rfl
theorem T3_refs (m:List Sta) (N:Nat) (els:List AV) (k s p q:Nat) (arcs:List Arc) (j:Nat):(T3 m N (oV els) (wV (dW els) k) s p q arcs j).flatMap (AV.refsN 6)=0::(oN els 1++(wN k (dW els) []++[p])):=by
  rw[←oV_refs, ← wV_refs]
  rfl
theorem T2_ren {f:Nat→Option Nat} (m:List Sta) (N:Nat) (els:List AV) (k s p q:Nat) (h0:f 0=some 0) (h1:els≠[]→f 1=some 1) (h2:k≠0→f (dW els)=some (dW els)) (h3:f p=some p):(T2 m N (oV els) (wV (dW els) k) s p q).map (AV.renN f 6)=T2 m N (oV els) (wV (dW els) k) s p q:=by
  have e1:=oV_ren els h1
  have e2:=wV_ren (dW els) k h2
  have e3:AV.renN f 6 (.ptr 1 0 0 0) = .ptr 1 0 0 0:=by simp only[AV.renN, h0]
  have e4:AV.renN f 6 (.sref 1 p 0 m.length) = .sref 1 p 0 m.length:=by simp only[AV.renN, h3]
  show slots 93 [(1, .int .i64 N), (2, AV.renN f 6 (.ptr 1 0 0 0)), (5, AV.renN f 6 (oV els)), (6, AV.renN f 6 (wV (dW els) k)), (7, .int .i64 s), (8, AV.renN f 6 (.sref 1 p 0 m.length)), (37, .tsl 2 (m.map encSta)), (38, .int .i64 m.length), (39, .int .i64 q)]=_
  rw[e1, e2, e3, e4]
  rfl
theorem T3_ren {f:Nat→Option Nat} (m:List Sta) (N:Nat) (els:List AV) (k s p q:Nat) (arcs:List Arc) (j:Nat) (h0:f 0=some 0) (h1:els≠[]→f 1=some 1) (h2:k≠0→f (dW els)=some (dW els)) (h3:f p=some p):(T3 m N (oV els) (wV (dW els) k) s p q arcs j).map (AV.renN f 6)=T3 m N (oV els) (wV (dW els) k) s p q arcs j:=by
  have e1:=oV_ren els h1
  have e2:=wV_ren (dW els) k h2
  have e3:AV.renN f 6 (.ptr 1 0 0 0) = .ptr 1 0 0 0:=by simp only[AV.renN, h0]
  have e4:AV.renN f 6 (.sref 1 p 0 m.length) = .sref 1 p 0 m.length:=by simp only[AV.renN, h3]
  show slots 93 [(1, .int .i64 N), (2, AV.renN f 6 (.ptr 1 0 0 0)), (5, AV.renN f 6 (oV els)), (6, AV.renN f 6 (wV (dW els) k)), (7, .int .i64 s), (8, AV.renN f 6 (.sref 1 p 0 m.length)), (9, .int .i64 q), (37, .tsl 2 (m.map encSta)), (38, .int .i64 m.length), (39, .int .i64 q), (53, .tsl 3 (arcs.map encArc)), (54, .int .i64 arcs.length), (55, .int .i64 j)]=_
  rw[e1, e2, e3, e4]
  rfl
theorem head2 {m:List Sta} {live:List Nat} {tm:List AV} {els bs:List AV} {k rb N s q:Nat} {K E:Heap} {o w:AV} (ho:oV els=o) (hw:wV (dW els) k=w) (hK:KH m els k=K) (hk:k<3800) (hE : ∀ b, b∈E→b.roB=false) (hL:keepLive live 0 tm=T2 m N o w s K.length q) :
    St.norm live ⟨tm, K ++ .row 1 bs false true K.length::E, 0, rb⟩=⟨T2 m N o w s K.length q, K++[.row 1 bs false true K.length], 0, 0⟩:=by
  subst ho hw
  have:=norm_in (live:=live) (tm:=tm) (bs:=bs) (rb:=rb) hK hk hE (by rw[hL]; exact T2_refs ..) (fun f f0 f1 f2 f3=>by rw[hL]; exact T2_ren m N els k s _ q f0 f1 f2 f3)
  rw[this, hL]
theorem head3 {m:List Sta} {live:List Nat} {tm:List AV} {els bs:List AV} {k rb N s q j:Nat} {arcs:List Arc} {K E:Heap} {o w:AV} (ho:oV els=o) (hw:wV (dW els) k=w) (hK:KH m els k=K) (hk:k<3800) (hE : ∀ b, b∈E→b.roB=false) (hL:keepLive live 0 tm=T3 m N o w s K.length q arcs j) :
    St.norm live ⟨tm, K ++ .row 1 bs false true K.length::E, 0, rb⟩=⟨T3 m N o w s K.length q arcs j, K++[.row 1 bs false true K.length], 0, 0⟩:=by
  subst ho hw
  have:=norm_in (live:=live) (tm:=tm) (bs:=bs) (rb:=rb) hK hk hE (by rw[hL]; exact T3_refs ..) (fun f f0 f1 f2 f3=>by rw[hL]; exact T3_ren m N els k s _ q arcs j f0 f1 f2 f3)
  rw[this, hL]
/-! ### Rows -/
def prR (m:List Sta) (k q:Nat):List AV:=((rowM m k).take q++List.replicate (m.length-q) false).map .bool
def prB (m:List Sta) (k q:Nat) (b:Bool):List AV:=((rowM m k).take q++b::List.replicate (m.length-(q+1)) false).map .bool
theorem prR_zero (m:List Sta) (k:Nat):List.replicate m.length (AV.bool false)=prR m k 0:=by simp [prR]
theorem prR_all (m:List Sta) (k:Nat):prR m k m.length=(rowM m k).map .bool:=by simp [prR, List.take_of_length_le (Nat.le_of_eq (rowM_len m k))]
theorem prB_len {m:List Sta} {k q:Nat} {b:Bool} (h:q<m.length):(prB m k q b).length=m.length:=by
  simp [prB, rowM_len]
  omega
theorem prR_B {m:List Sta} {k q:Nat} (h:q<m.length):prR m k q=prB m k q false:=by
  unfold prR prB
  rw[show m.length-q=(m.length-(q+1))+1 by omega, List.replicate_succ]
theorem take_l {m:List Sta} {k q:Nat} (h:q<m.length):((rowM m k).take q).length=q:=by
  rw[List.length_take, rowM_len]
  omega
theorem prB_get {m:List Sta} {k q:Nat} {b:Bool} (h:q<m.length):(prB m k q b)[q]?=some (.bool b):=by
  unfold prB
  rw[List.getElem?_map, List.getElem?_append_right (by rw[take_l h]; exact Nat.le_refl _), take_l h, Nat.sub_self]
  rfl
theorem prB_set {m:List Sta} {k q:Nat} {b c:Bool} (h:q<m.length):(prB m k q b).set q (.bool c)=prB m k q c:=by
  unfold prB
  rw[List.map_append, List.map_append, List.set_append_right _ _ (by rw[List.length_map, take_l h]; exact Nat.le_refl _), List.length_map, take_l h, Nat.sub_self]
  rfl
theorem prB_done {m:List Sta} {k q:Nat} {b:Bool} (h:(rowM m k)[q]?=some b):prB m k q b=prR m k (q+1):=by
  unfold prB prR
  rw[List.take_add_one, h]
  simp
theorem any_snoc {α:Type} {l:List α} {j:Nat} {a:α} {p:α→Bool} (h:l[j]?=some a):(l.take (j+1)).any p=((l.take j).any p || p a):=by
  rw[List.take_add_one, h, List.any_append]
  simp
end Ago
