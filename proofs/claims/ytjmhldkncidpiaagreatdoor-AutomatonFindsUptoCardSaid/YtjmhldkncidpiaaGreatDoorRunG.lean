/- automaton.collect: the run. -/
import Derived.Test.YtjmhldkncidpiaaGreatDoorRunD
import Derived.Test.YtjmhldkncidpiaaGreatDoorRunE
import Derived.Test.YtjmhldkncidpiaaGreatDoorRunF
set_option linter.unusedSimpArgs false
set_option linter.unusedVariables false
set_option maxRecDepth 100000
namespace Ago
open Go (IntKind)
theorem collect_run (m:List Sta) (hs:SmallM m) (hv:validM m=true) : ∀ n, ColIH m n:=by
  intro n
  induction n with
  | zero=>
    intro q H so out sos els fs fo W N hq hC hF hS hH hap hW hrow hel hN hlen
    have h0:=collect0 m W q N hC hF hS hH (by omega) (by omega)
    obtain ⟨x, hx⟩:=exAt hq
    have hacc:accM m q=true:=by
      rw[List.getD_eq_getElem?_getD, rowM_at hx 0] at hrow
      unfold accM
      rw[hx]
      exact hrow
    have e:strV (((allS m 0 q).map (sos ++ ·)).take (N-els.length))=[.str sos]:=by
      have:allS m 0 q=[[]]:=if_pos hacc
      rw[this, List.take_of_length_le (by simp; omega)]
      simp [strV]
    rw[e, Nat.zero_add]
    exact h0
  | succ n ih=>
    intro q H so out sos els fs fo W N hq hC hF hS hH hap hW hrow hel hN hlen
    have hbl:(encB sos).length=sos.length:=by simp [encB]
    rcases hS.two_mk with ⟨h1, h2⟩ | ⟨rs, h1, _⟩
    · exact collect_n m hs hv n ih q H so out sos els fs fo W N ⟨h1, by rw[←hbl]; exact h2⟩ hq hC hF hS hH hap hW hrow hel hN hlen
    · exact collect_r m hs hv n ih q H so out sos els fs fo W N ⟨rs, by rw[h1, hbl]⟩ hq hC hF hS hH hap hW hrow hel hN hlen
end Ago
/- automaton.Some: the end of a round. -/
set_option maxRecDepth 100000
set_option maxHeartbeats 16000000
namespace Ago
open Go (IntKind)
/-- The heap behind a round. -/
def endH (m:List Sta) (els:List AV) (k:Nat) (K:Heap):Heap:=K++[rowB m k K.length, .row 1 [.sref 1 K.length 0 m.length] false false (K.length+1), .row 1 (refsL m.length (List.range' (dW els+1) k++[K.length])) false false (if k=0 then K.length+2 else dW els)]
theorem endH_len (m:List Sta) (els:List AV) (k:Nat) (K:Heap):(endH m els k K).length=K.length+3:=by simp [endH]
theorem endH_low {m:List Sta} {els:List AV} {k:Nat} {K:Heap} {j:Nat} {b:Blk} (h:K[j]?=some b):(endH m els k K)[j]?=some b:=by
  unfold endH
  rw[List.getElem?_append_left (List.getElem?_eq_some_iff.1 h).1]
  exact h
theorem endH_0 (m:List Sta) (els:List AV) (k:Nat) (K:Heap):(endH m els k K)[K.length]?=some (rowB m k K.length):=by
  unfold endH
  rw[List.getElem?_append_right (Nat.le_refl _), Nat.sub_self]
  rfl
theorem endH_2 (m:List Sta) (els:List AV) (k:Nat) (K:Heap):(endH m els k K)[K.length+2]?=some (.row 1 (refsL m.length (List.range' (dW els+1) k++[K.length])) false false (if k=0 then K.length+2 else dW els)):=by
  unfold endH
  rw[List.getElem?_append_right (by omega), Nat.add_sub_cancel_left]
  rfl
theorem endH_get {m:List Sta} {els:List AV} {k:Nat} {K:Heap} {j:Nat} {b:Blk} (h:(endH m els k K)[j]?=some b):K[j]?=some b∨(j=K.length∧b=rowB m k K.length)∨(j=K.length+1∧b = .row 1 [.sref 1 K.length 0 m.length] false false (K.length+1))∨(j=K.length+2∧b = .row 1 (refsL m.length (List.range' (dW els+1) k++[K.length])) false false (if k=0 then K.length+2 else dW els)):=by
  unfold endH at h
  rcases Nat.lt_or_ge j K.length with hj | hj
  · rw[List.getElem?_append_left hj] at h
    exact .inl h
  · rw[List.getElem?_append_right hj] at h
    obtain ⟨c, hc⟩ : ∃ c, j=K.length+c:=⟨j-K.length, by omega⟩
    subst hc
    rw[Nat.add_sub_cancel_left] at h
    match c, h with
    | 0, h=>cases h; exact .inr (.inl ⟨rfl, rfl⟩)
    | 1, h=>cases h; exact .inr (.inr (.inl ⟨rfl, rfl⟩))
    | 2, h=>cases h; exact .inr (.inr (.inr ⟨rfl, rfl⟩))
theorem dW_two {els:List AV} (h:els≠[]):dW els=2:=if_neg h
theorem lenW_pos {k:Nat} (h:k≠0):lenW k=k+1:=if_neg h
/-- What is known of each block. -/
theorem KH_blk {m:List Sta} {els:List AV} {k j:Nat} {b:Blk} (h:(KH m els k)[j]?=some b):(∃ n e, b = .row n e false true j)∨(b = .row 1 (refsL m.length (List.range' (dW els+1) k)) false false j∧j=dW els∧k≠0):=by
  have hd:=dW_pos els
  have hl:=KH_len m els k
  have hjl:=(List.getElem?_eq_some_iff.1 h).1
  by_cases h0:j=0
  · subst h0
    rw[KH_zero] at h
    cases h
    exact .inl ⟨_, _, rfl⟩
  · by_cases h1:j<dW els
    · have he:els≠[]:=fun e=>by rw[e] at h1; simp [dW] at h1; omega
      have h2:j=1:=by
        have:=dW_two he
        omega
      subst h2
      rw[KH_out he] at h
      cases h
      exact .inl ⟨_, _, rfl⟩
    · have hk:k≠0:=fun e=>by
        subst e
        simp [lenW] at hl
        omega
      by_cases h2:j=dW els
      · subst h2
        rw[KH_wit hk] at h
        cases h
        exact .inr ⟨rfl, rfl, hk⟩
      · have hq:j=dW els+1+(j-dW els-1):=by omega
        rw[hq, KH_row (by rw[lenW_pos hk] at hl; omega)] at h
        cases h
        exact .inl ⟨1, (rowM m (j-dW els-1)).map .bool, by rw[←hq]; rfl⟩
theorem ren_refsL {f:Nat→Option Nat} (L:Nat) : ∀ (l:List Nat), (∀ r, r∈l→f r=some r)→(refsL L l).map (AV.renN f 6)=refsL L l
  | [], _=>rfl
  | r::l, h=>by
    have ih:=ren_refsL L l fun x hx=>h x (List.mem_cons_of_mem _ hx)
    unfold refsL at ih ⊢
    rw[List.map_cons, List.map_cons, ih]
    simp only[AV.renN, h r (List.mem_cons_self ..)]
/-- Rows without references, and rows of references. -/
theorem Cl_of {H:Heap} (h : ∀ (j:Nat) (b:Blk), H[j]?=some b→∃ n e ro fl fam, b = .row n e ro fl fam∧fam<H.length∧(fl=true∨∃ L l, e=refsL L l∧∀ r, r∈l→r<H.length)):Cl H∧Fb H:=by
  refine ⟨⟨fun b hb r hr=>?_, fun b hb f g hf hg=>?_⟩, fun j n els ro fl f hj=>?_⟩
  · obtain ⟨j, hj⟩:=List.getElem?_of_mem hb
    obtain ⟨n, e, ro, fl, fam, rfl, h1, h2⟩:=h j b hj
    rcases h2 with rfl | ⟨L, l, rfl, h2⟩
    · cases hr
    · cases fl with
      | true=>cases hr
      | false=>
        have:Blk.refs (.row n (refsL L l) ro false fam)=l:=refsL_refs L l
        rw[this] at hr
        exact h2 r hr
  · obtain ⟨j, hj⟩:=List.getElem?_of_mem hb
    obtain ⟨n, e, ro, fl, fam, rfl, h1, h2⟩:=h j b hj
    rcases h2 with rfl | ⟨L, l, rfl, h2⟩
    · simp only[Blk.ren, if_true, hg _ h1]
    · simp only[Blk.ren, hg _ h1]
      rw[ren_refsL L l fun r hr=>hf r (h2 r hr)]
      split<;>rfl
  · obtain ⟨n, e, ro, fl, fam, h0, h1, h2⟩:=h j _ hj
    cases h0
    exact h1
theorem endH_facts {m:List Sta} {els:List AV} {k:Nat} {K:Heap} (hK:KH m els k=K):Cl (endH m els k K)∧Fb (endH m els k K)∧WitH m (endH m els k K) (K.length+2) (k+1)∧Hold (endH m els k K) (oV els) els (if els=[] then K.length+3 else 1):=by
  have hd:=dW_pos els
  have hl:=KH_len m els k
  rw[hK] at hl
  have hfw:(if k=0 then K.length+2 else dW els)<K.length+3:=by
    split
    · omega
    · rename_i hk
      rw[lenW_pos hk] at hl
      omega
  have hmem : ∀ r, r∈List.range' (dW els+1) k++[K.length]→r<K.length+1:=fun r hr=>by
    rcases List.mem_append.1 hr with hr | hr
    · have:=List.mem_range'_1.1 hr
      have hk:k≠0:=by omega
      rw[lenW_pos hk] at hl
      omega
    · have:=List.mem_singleton.1 hr
      omega
  obtain ⟨hC, hF⟩:=Cl_of (H:=endH m els k K) (fun j b hj=>by
    rw[endH_len]
    rcases endH_get hj with h | ⟨rfl, rfl⟩ | ⟨rfl, rfl⟩ | ⟨rfl, rfl⟩
    · have hjl:=(List.getElem?_eq_some_iff.1 h).1
      rw[←hK] at h
      rcases KH_blk h with ⟨n, e, rfl⟩ | ⟨rfl, h2, h3⟩
      · exact ⟨n, e, false, true, j, rfl, by omega, .inl rfl⟩
      · refine ⟨1, _, false, false, j, rfl, by omega, .inr ⟨_, _, rfl, fun r hr=>?_⟩⟩
        have:=hmem r (List.mem_append_left _ hr)
        omega
    · exact ⟨1, _, false, true, _, rfl, by omega, .inl rfl⟩
    · exact ⟨1, _, false, false, _, rfl, by omega, .inr ⟨m.length, [K.length], rfl, fun r hr=>by
        have:=List.mem_singleton.1 hr
        omega⟩⟩
    · exact ⟨1, _, false, false, _, rfl, hfw, .inr ⟨_, _, rfl, fun r hr=>by
        have:=hmem r hr
        omega⟩⟩)
  refine ⟨hC, hF, ⟨_, _, _, endH_2 m els k K, ?_, fun i hi=>?_⟩, ?_⟩
  · simp [refsL]
  · by_cases hik:i<k
    · refine ⟨dW els+1+i, dW els+1+i, ?_, ?_⟩
      · unfold refsL
        rw[List.getElem?_map, List.getElem?_append_left (by simpa using hik), List.getElem?_range' hik]
        simp
      · exact endH_low (by rw[←hK]; exact KH_row hik)
    · have:i=k:=by omega
      subst this
      refine ⟨K.length, K.length, ?_, endH_0 m els i K⟩
      unfold refsL
      rw[List.getElem?_map, List.getElem?_append_right (by simp)]
      simp
  · by_cases he:els=[]
    · subst he
      rw[if_pos rfl]
      have:=Hold.nil (H:=endH m [] k K)
      rw[endH_len] at this
      exact this
    · rw[if_neg he]
      have e:oV els = .sref 1 1 0 els.length:=if_neg he
      rw[e]
      have h1:K[1]?=some (.row 1 els false true 1):=by rw[←hK]; exact KH_out he
      have h1l:=(List.getElem?_eq_some_iff.1 h1).1
      refine Hold.row he (endH_low h1) (by rw[endH_len]; omega) fun j n e ro fl hj=>.inl ?_
      rcases endH_get hj with h | ⟨rfl, h⟩ | ⟨rfl, h⟩ | ⟨rfl, h⟩
      · rw[←hK] at h
        rcases KH_blk h with ⟨n, e, h⟩ | ⟨h, _⟩
        · cases h; rfl
        · cases h; rfl
      · simp only[rowB, Blk.row.injEq] at h
        omega
      · simp only[Blk.row.injEq] at h
        omega
      · simp only[Blk.row.injEq] at h
        have h2:=h.2.2.2.2
        have:=dW_two he
        split at h2<;>omega
/-- collect, as Some calls it. -/
theorem endH_call {m:List Sta} (hs:SmallM m) (hv:validM m=true) {els:List AV} {k N:Nat} {K:Heap} (hK:KH m els k=K) (hrow:(rowM m k).getD 0 false=true) (he:els.length<N) (hN:N≤1024) (hk:k<3000) {mm:List AV} (hm:strV ((allS m k 0).take (N-els.length))=mm) :
    mm≠[]∧RunOf CB 352 [encMa m, .sref 1 (K.length+2) 0 (k+1), .int .i64 0, .snil 1, oV els, .int .i64 N] (endH m els k K) (.sref 1 (K.length+3) 0 (els++mm).length) (endH m els k K++[.row 1 (els++mm) false true (if els=[] then K.length+3 else 1)]):=by
  have hv1:=valid_len hv
  obtain ⟨f1, f2, f3, f4⟩:=endH_facts (m:=m) (els:=els) (k:=k) hK
  have hmm:mm≠[]:=fun e=>by
    rw[←hm] at e
    have h1:=(row_iff hv k 0 (by omega)).1 hrow
    have h2:(allS m k 0).take (N-els.length)=[]:=by simpa [strV] using e
    rcases List.take_eq_nil_iff.1 h2 with h | h
    · omega
    · exact h1 h
  have:=collect_run m hs hv k 0 (endH m els k K) (.snil 1) (oV els) [] els _ _ (K.length+2) N (by omega) f1 f2 Hold.nil f4 (.inr (.inl rfl)) f3 hrow he (by omega) (by simp; omega)
  have e2:(((allS m k 0).map (([]:List UInt8) ++ ·)).take (N-els.length))=(allS m k 0).take (N-els.length):=by simp
  rw[e2, hm] at this
  refine ⟨hmm, ?_⟩
  rw[nextV, if_neg hmm, nextH, if_neg hmm, endH_len] at this
  exact this
theorem T0_ren {f:Nat→Option Nat} (N:Nat) (o w o' w':AV) (s:Nat) (h0:f 0=some 0) (h1:AV.renN f 6 o=o') (h2:AV.renN f 6 w=w'):(T0 N o w s).map (AV.renN f 6)=T0 N o' w' s:=by
  have e3:AV.renN f 6 (.ptr 1 0 0 0) = .ptr 1 0 0 0:=by simp only[AV.renN, h0]
  show slots 93 [(1, .int .i64 N), (2, AV.renN f 6 (.ptr 1 0 0 0)), (5, AV.renN f 6 o), (6, AV.renN f 6 w), (7, .int .i64 s)]=_
  rw[e3, h1, h2]
  rfl
theorem endH_prs {m:List Sta} {els:List AV} {k:Nat} {K:Heap} (hK:KH m els k=K) : ∀ q r, (List.range' (dW els+1) k++[K.length])[q]?=some r→(endH m els k K)[r]?=some (rowB m q r):=fun q r hq=>by
  by_cases hqk:q<k
  · rw[List.getElem?_append_left (by simpa using hqk), List.getElem?_range' hqk] at hq
    have:r=dW els+1+q:=by simp at hq; omega
    subst this
    exact endH_low (by rw[←hK]; exact KH_row hqk)
  · have hl:=(List.getElem?_eq_some_iff.1 hq).1
    simp at hl
    have:q=k:=by omega
    subst this
    rw[List.getElem?_append_right (by simp)] at hq
    simp at hq
    subst hq
    exact endH_0 m els q K
theorem endH_ro {m:List Sta} {els:List AV} {k:Nat} {K:Heap} (hK:KH m els k=K) : ∀ b, b∈endH m els k K→b.roB=false:=by
  have ho:=KH_own m els k
  rw[hK] at ho
  exact ro_app ho.ro (ro_cons rfl (ro_cons rfl (ro_cons rfl ro_nil)))
theorem nd_prs {m:List Sta} {els:List AV} {k:Nat} {K:Heap} (hK:KH m els k=K):(List.range' (dW els+1) k++[K.length]).Nodup∧∀ r, r∈List.range' (dW els+1) k++[K.length]→dW els<r∧r≤K.length∨r=K.length:=by
  have hl:=KH_len m els k
  rw[hK] at hl
  refine ⟨nd_app (range_nd _ _) fun h=>?_, fun r hr=>?_⟩
  · have:=List.mem_range'_1.1 h
    have hk:k≠0:=by omega
    rw[lenW_pos hk] at hl
    omega
  · rcases List.mem_append.1 hr with hr | hr
    · have:=List.mem_range'_1.1 hr
      have hk:k≠0:=by omega
      rw[lenW_pos hk] at hl
      exact .inl (by omega)
    · exact .inr (List.mem_singleton.1 hr)
/-- The head behind a round in which nothing is found. -/
theorem norm_endA {m:List Sta} {live:List Nat} {tm:List AV} {els:List AV} {k N s rb:Nat} {K:Heap} (hK:KH m els k=K) (hk:k<3800) (hL:keepLive live 0 tm=T0 N (oV els) (.sref 1 (K.length+2) 0 (k+1)) s) :
    St.norm live ⟨tm, endH m els k K, 0, rb⟩=⟨T0 N (oV els) (wV (dW els) (k+1)) s, KH m els (k+1), 0, 0⟩:=by
  have hl:=KH_len m els k
  rw[hK] at hl
  have hd:=dW_pos els
  obtain ⟨n1, n2⟩:=nd_prs (m:=m) (els:=els) (k:=k) hK
  have hkl:k≠0→K.length=dW els+k+1:=fun h=>by rw[hl, lenW_pos h]; omega
  have:=norm_some (m:=m) (live:=live) (tm:=tm) (tm':=T0 N (oV els) (wV (dW els) (k+1)) s) (H:=endH m els k K) (els:=els) (k:=k+1) (po:=1) (fo:=1) (pw:=K.length+2) (fw:=if k=0 then K.length+2 else dW els) (rb:=rb) (prs:=List.range' (dW els+1) k++[K.length]) (X:=[]) (by simp) (endH_ro hK)
    (endH_low (by rw[←hK]; exact KH_zero m els k)) (fun h=>endH_low (by rw[←hK]; exact KH_out h)) (fun _=>endH_2 m els k K) (endH_prs hK) (fun x hx=>by cases hx)
    (nd_ks n1 List.nodup_nil (fun _=>by omega) (fun _=>by omega) (fun h _=>by omega) (fun r hr=>by
      have:=n2 r hr
      exact ⟨by omega, by omega, fun h=>by have:=dW_two h; omega⟩) (fun r hr=>by cases hr) (fun _ r hr=>by cases hr))
    (nd_ks n1 List.nodup_nil (fun _=>by omega) (fun _=>by split<;>omega) (fun h _=>by have:=dW_two h; split<;>omega) (fun r hr=>by
      have:=n2 r hr
      refine ⟨by omega, ?_, fun h=>by have:=dW_two h; omega⟩
      split
      · omega
      · rename_i hk0
        have:=hkl hk0
        omega) (fun r hr=>by cases hr) (fun _ r hr=>by cases hr)) (by simp; omega)
    (by
      rw[hL]
      show 0::(AV.refsN 6 (oV els)++([K.length+2]++[]))=_
      rw[oV_refs]
      simp [wN])
    (fun f f0 f1 f2 f3=>by
      rw[hL]
      refine T0_ren _ _ _ _ _ _ f0 (oV_ren els f1) ?_
      have:=f2 (by omega)
      simp only[AV.renN, this, wV, if_neg (Nat.succ_ne_zero k)])
  rw[this]
  rw[xB, List.append_nil]
/-- The head behind a round in which strings are found. -/
theorem norm_endB {m:List Sta} {live:List Nat} {tm:List AV} {els mm:List AV} {k N s rb:Nat} {K:Heap} (hK:KH m els k=K) (hmm:mm≠[]) (hk:k<3800) (hL:keepLive live 0 tm=T0 N (.sref 1 (K.length+3) 0 (els++mm).length) (.sref 1 (K.length+2) 0 (k+1)) s) :
    St.norm live ⟨tm, endH m els k K++[.row 1 (els++mm) false true (if els=[] then K.length+3 else 1)], 0, rb⟩=⟨T0 N (oV (els++mm)) (wV (dW (els++mm)) (k+1)) s, KH m (els++mm) (k+1), 0, 0⟩:=by
  have hl:=KH_len m els k
  rw[hK] at hl
  have hd:=dW_pos els
  have hne:els++mm≠[]:=fun e=>hmm (List.append_eq_nil_iff.1 e).2
  obtain ⟨n1, n2⟩:=nd_prs (m:=m) (els:=els) (k:=k) hK
  have hkl:k≠0→K.length=dW els+k+1:=fun h=>by rw[hl, lenW_pos h]; omega
  have hlow : ∀ {j b}, (endH m els k K)[j]?=some b→(endH m els k K++[Blk.row 1 (els++mm) false true (if els=[] then K.length+3 else 1)])[j]?=some b:=fun {j b} h=>by
    rw[List.getElem?_append_left (List.getElem?_eq_some_iff.1 h).1]
    exact h
  have:=norm_some (m:=m) (live:=live) (tm:=tm) (tm':=T0 N (oV (els++mm)) (wV (dW (els++mm)) (k+1)) s) (H:=endH m els k K++[.row 1 (els++mm) false true (if els=[] then K.length+3 else 1)]) (els:=els++mm) (k:=k+1) (po:=K.length+3) (fo:=if els=[] then K.length+3 else 1) (pw:=K.length+2) (fw:=if k=0 then K.length+2 else dW els) (rb:=rb) (prs:=List.range' (dW els+1) k++[K.length]) (X:=[]) (by simp) (ro_app (endH_ro hK) (ro_cons rfl ro_nil))
    (hlow (endH_low (by rw[←hK]; exact KH_zero m els k))) (fun h=>by rw[List.getElem?_append_right (by rw[endH_len]; exact Nat.le_refl _), endH_len, Nat.sub_self]; rfl) (fun _=>hlow (endH_2 m els k K)) (fun q r hq=>hlow (endH_prs hK q r hq)) (fun x hx=>by cases hx)
    (nd_ks n1 List.nodup_nil (fun _=>by omega) (fun _=>by omega) (fun h _=>by omega) (fun r hr=>by
      have:=n2 r hr
      exact ⟨by omega, by omega, fun h=>by omega⟩) (fun r hr=>by cases hr) (fun _ r hr=>by cases hr))
    (nd_ks n1 List.nodup_nil (fun _=>by split<;>omega) (fun _=>by split<;>omega) (fun h _=>by
      by_cases he:els=[]
      · rw[if_pos he]
        by_cases hk0:k=0
        · rw[if_pos hk0]
          omega
        · rw[if_neg hk0]
          have:=hkl hk0
          omega
      · rw[if_neg he]
        have:=dW_two he
        split<;>omega) (fun r hr=>by
      have:=n2 r hr
      refine ⟨by omega, ?_, fun h=>?_⟩
      · split
        · omega
        · rename_i hk0
          have:=hkl hk0
          omega
      · by_cases he:els=[]
        · rw[if_pos he]
          omega
        · rw[if_neg he]
          have:=dW_two he
          omega) (fun r hr=>by cases hr) (fun _ r hr=>by cases hr)) (by simp; omega)
    (by
      rw[hL]
      show 0::([K.length+3]++([K.length+2]++[]))=_
      simp [wN, oN, hmm])
    (fun f f0 f1 f2 f3=>by
      rw[hL]
      refine T0_ren _ _ _ _ _ _ f0 ?_ ?_
      · have:=f1 hne
        simp only[AV.renN, this, oV, if_neg hne]
      · have:=f2 (by omega)
        simp only[AV.renN, this, wV, if_neg (Nat.succ_ne_zero k)])
  rw[this]
  rw[xB, List.append_nil]
end Ago
/- automaton.Some: the run. -/
set_option maxRecDepth 100000
set_option maxHeartbeats 16000000
namespace Ago
open Go (IntKind)
theorem someP_run (m:List Sta) (hs:SmallM m) (hv:validM m=true) (n:Int) (N:Nat) (hnN:n.toNat=N) (hN:N≤1024) (hB:muS m N [] 0<3000):PRun CB 328 [encMa m, .int .i64 n] (.tsl 1 (strV (refSomeM m N))):=by
  have hme:encMa m = .agg [.tsl 2 (m.map encSta)]:=rfl
  have hmm:=hs.1
  have hv1:=valid_len hv
  have hvr:=valid_run m hs
  rw[hv] at hvr
  have hmin:(if (1024:Int)<(N:Int) then 1024 else (N:Int))=N:=if_neg (by omega)
  have hmax:(if n<0 then (0:Int) else n)=N:=by split<;>omega
  refine prun_of ac328 rfl ?_
  rw[hme] at hvr ⊢
  (repeat' first|simp (disch:=omega) only[go_sem, ac328, enter, hmin, hmax, List.length_map]|refine pure_of _ (hvr) ?_|(apply spl<;>intro h<;>try simp (disch:=omega) only[go_sem, ac328, enter, hmin, hmax, List.length_map , h]))
  refine loop_of (α:=List (List UInt8) × Nat × Nat) (fun a=>{ tmps:=T0 N (oV (strV a.1)) (wV (dW (strV a.1)) a.2.2) a.2.1, heap:=KH m (strV a.1) a.2.2, base:=0 }) (SomeJ m N (refSomeM m N) (muS m N [] 0)) (fun a=>muS m N a.1 a.2.1) ([], 0, 0) (by rfl) (SomeJ.same hv N) ?_
  rintro ⟨out, s, k⟩ hI
  have hb:=hI.bnd
  have hlen:=hI.len
  dsimp only at hb hlen ⊢
  obtain ⟨els, hels⟩ : ∃ els, strV out=els:=⟨_, rfl⟩
  have hel:els.length=out.length:=by rw[←hels]; simp [strV]
  have hK0:=KH_zero m els k
  have hKO:=KH_own m els k
  have hKl:=KH_len m els k
  have hKw:k≠0→_:=KH_wit (m:=m) (els:=els) (k:=k)
  have hKr : ∀ q, q<k→_:=fun q h=>KH_row (m:=m) (els:=els) (k:=k) (q:=q) h
  rw[hels]
  obtain ⟨K, hK⟩ : ∃ K, KH m els k=K:=⟨_, rfl⟩
  rw[hK] at hK0 hKO hKl hKw ⊢
  unfold mBox at hK0
  rw[hme] at hK0
  unfold T0
  have hlo:=lenL_o els
  unfold xLenL at hlo
  have hd:=dW_pos els
  by_cases h1:out.length<N∧s≤m.length
  · obtain ⟨h1, h2⟩:=h1
    obtain ⟨hI2, hmu⟩:=hI.step h1 h2 rfl
    dsimp only at hI2 hmu
    obtain ⟨l, hl⟩ : ∃ l, (allS m k 0).take (N-out.length)=l:=⟨_, rfl⟩
    rw[hl] at hI2 hmu
    have hnew:strV (out++l)=els++strV l:=by rw[←hels]; simp [strV]
    obtain ⟨o, ho⟩ : ∃ o, oV els=o:=⟨_, rfl⟩
    rw[ho] at hlo ⊢
    have hne : ¬ ((m.length:Int)=0):=by omega
    have hK1:0<K.length:=by omega
    have kS : ∀ (r c n1 n2:Nat) (e1 e2:List AV) (f1 f2:Bool), strikeGo r r c (K++[.row n1 e1 false f1 K.length, .row n2 e2 false f2 (K.length+1)]) 0=some (K++[.row n1 e1 false f1 K.length, .row n2 e2 false f2 (K.length+1)]):=fun r c n1 n2 e1 e2 f1 f2=>by
      have:=(hKO.add (n:=n1) (els:=e1) (fl:=f1) rfl).add (n:=n2) (els:=e2) (fl:=f2) (j:=K.length+1) (by simp)
      rw[List.append_assoc] at this
      exact this.self
    obtain ⟨w, hw⟩ : ∃ w, wV (dW els) k=w:=⟨_, rfl⟩
    rw[hw]
    (repeat' first|simp (disch:=omega) only[go_sem, hlo, hK0, List.length_map, gL, sL, gP0, sP0, hel, hne, if_false]|(apply spl<;>intro h<;>try simp (disch:=omega) only[go_sem, hlo, hK0, List.length_map, gL, sL, gP0, sP0, hel, hne, if_false, h]))
    all_goals first | omega | skip
    refine loop_of (α:=Nat) (fun q=>{ tmps:=T2 m N o w s K.length q, heap:=K++[.row 1 (prR m k q) false true K.length], base:=0 }) (fun q=>q≤m.length) (fun q=>m.length-q) 0 ?_ (Nat.zero_le _) ?_
    · rw[prR_zero m k]
      exact head2 (E:=[]) ho hw hK (by omega) ro_nil rfl
    intro q hq
    unfold T2
    by_cases hlt:q<m.length
    · obtain ⟨x, hx⟩:=exAt hlt
      have hx2:(m.map encSta)[q]?=some (.agg [.bool x.acc, .tsl 3 (x.arcs.map encArc)]):=mget hx
      rw[prR_B hlt]
      by_cases hk0:k=0
      · have hw0:w = .snil 1:=by rw[←hw, hk0]; rfl
        have hpg:=prB_get (k:=k) (b:=false) hlt
        have hpl:=prB_len (k:=k) (b:=false) hlt
        have hrow:(rowM m k)[q]?=some x.acc:=by rw[hk0]; exact rowM_at hx 0
        rw[hw0]
        (repeat' first|simp (disch:=omega) only[go_sem, hx2, hpg, hpl, List.length_map, gL, sL, gP0, sP0, getP0, getP1, setP1, kS, List.length_append, List.length_cons, List.length_nil, Nat.zero_add, List.append_assoc, List.cons_append, List.nil_append]|(apply spl<;>intro h<;>try simp (disch:=omega) only[go_sem, hx2, hpg, hpl, List.length_map, gL, sL, gP0, sP0, getP0, getP1, setP1, kS, List.length_append, List.length_cons, List.length_nil, Nat.zero_add, List.append_assoc, List.cons_append, List.nil_append, h]))
        all_goals first | omega | skip
        refine ⟨q+1, ?_, by omega, by omega⟩
        rw[prB_set hlt, prB_done hrow]
        exact head2 (E:=[_]) ho (hw.trans hw0) hK (by omega) (ro_cons rfl ro_nil) rfl
      · have hw0:w = .sref 1 (dW els) 0 k:=by rw[←hw]; exact if_neg hk0
        have hKw:=hKw hk0
        have hdl:=(List.getElem?_eq_some_iff.1 hKw).1
        have hKr:=hKr (k-1) (by omega)
        rw[hK] at hKr
        unfold rowB at hKr
        have hrl:=(List.getElem?_eq_some_iff.1 hKr).1
        have hwl:(refsL m.length (List.range' (dW els+1) k)).length=k:=by simp [refsL]
        have hwg:(refsL m.length (List.range' (dW els+1) k))[k-1]?=some (.sref 1 (dW els+1+(k-1)) 0 m.length):=by
          unfold refsL
          rw[List.getElem?_map, List.getElem?_range' (by omega)]
          simp
        obtain ⟨ws, hws⟩ : ∃ ws, refsL m.length (List.range' (dW els+1) k)=ws:=⟨_, rfl⟩
        rw[hws] at hKw hwl hwg
        obtain ⟨p, hp⟩ : ∃ p, dW els+1+(k-1)=p:=⟨_, rfl⟩
        rw[hp] at hKr hrl hwg
        have hrl2:((rowM m (k-1)).map AV.bool).length=m.length:=by rw[List.length_map, rowM_len]
        have hrow:(rowM m k)[q]?=some (x.arcs.any fun a=>(rowM m (k-1)).getD a.next.toNat false):=by
          obtain ⟨k', rfl⟩ : ∃ k', k=k'+1:=⟨k-1, by omega⟩
          exact rowM_at hx (k'+1)
        rw[hw0]
        obtain ⟨dd, hdd⟩ : ∃ dd, dW els=dd:=⟨_, rfl⟩
        rw[hdd] at hdl hKw ⊢
        have hpg:=prB_get (k:=k) (b:=false) hlt
        have hpl:=prB_len (k:=k) (b:=false) hlt
        (repeat' first|simp (disch:=omega) only[go_sem, hx2, hpg, hpl, List.length_map, gL, sL, gP0, sP0, getP0, getP1, setP1, kS, List.length_append, List.length_cons, List.length_nil, Nat.zero_add, List.append_assoc, List.cons_append, List.nil_append]|(apply spl<;>intro h<;>try simp (disch:=omega) only[go_sem, hx2, hpg, hpl, List.length_map, gL, sL, gP0, sP0, getP0, getP1, setP1, kS, List.length_append, List.length_cons, List.length_nil, Nat.zero_add, List.append_assoc, List.cons_append, List.nil_append, h]))
        all_goals first | omega | skip
        have hw1:wV (dW els) k = .sref 1 dd 0 k:=by rw[←hdd]; exact hw.trans hw0
        have hal:=hs.2 x (List.mem_of_getElem? hx)
        have hok:=valid_arcs hv (List.mem_of_getElem? hx)
        obtain ⟨pf, hpf⟩ : ∃ pf:Arc→Bool, (fun a:Arc=>(rowM m (k-1)).getD a.next.toNat false)=pf:=⟨_, rfl⟩
        rw[hpf] at hrow
        refine loop_of (α:=Nat) (fun j=>{ tmps:=T3 m N o (.sref 1 dd 0 k) s K.length q x.arcs j, heap:=K++[.row 1 (prB m k q ((x.arcs.take j).any pf)) false true K.length], base:=0 }) (fun j=>j≤x.arcs.length) (fun j=>x.arcs.length-j) 0 ?_ (Nat.zero_le _) ?_
        · exact head3 (E:=[_]) ho hw1 hK (by omega) (ro_cons rfl ro_nil) rfl
        intro j hj
        unfold T3
        by_cases hjl:j<x.arcs.length
        · obtain ⟨a, ha⟩:=exAt hjl
          have ha2:(x.arcs.map encArc)[j]?=some (.agg [.int .i64 a.lo, .int .i64 a.hi, .int .i64 a.next]):=mget ha
          obtain ⟨j1, j2, j3, j4, j5, j6⟩:=arcs_hit x.arcs 0 hok (Int.le_refl _) a (List.mem_of_getElem? ha)
          obtain ⟨c, hc⟩:=exAt (l:=rowM m (k-1)) (k:=a.next.toNat) (by rw[rowM_len]; omega)
          have hc2:((rowM m (k-1)).map AV.bool)[a.next.toNat]?=some (.bool c):=mget hc
          have hpc:pf a=c:=by
            rw[←hpf]
            show (rowM m (k-1)).getD a.next.toNat false=c
            rw[List.getD_eq_getElem?_getD, hc]
            rfl
          have hsn:=any_snoc (p:=pf) ha
          rw[hpc] at hsn
          obtain ⟨b, hb0⟩ : ∃ b, (x.arcs.take j).any pf=b:=⟨_, rfl⟩
          rw[hb0] at hsn ⊢
          have hpg:=prB_get (k:=k) (b:=b) hlt
          have hpl:=prB_len (k:=k) (b:=b) hlt
          have hkn:((k:Int)-1).toNat=k-1:=by omega
          cases b with
          | true=>
            (repeat' first|simp (disch:=omega) only[go_sem, ha2, hpg, hpl, hKw, hwl, hwg, hkn, hKr, hrl2, hc2, List.length_map, gL, sL, gP0, sP0, getP0, getP1, setP1, kS, List.length_append, List.length_cons, List.length_nil, Nat.zero_add, List.append_assoc, List.cons_append, List.nil_append]|(apply spl<;>intro h<;>try simp (disch:=omega) only[go_sem, ha2, hpg, hpl, hKw, hwl, hwg, hkn, hKr, hrl2, hc2, List.length_map, gL, sL, gP0, sP0, getP0, getP1, setP1, kS, List.length_append, List.length_cons, List.length_nil, Nat.zero_add, List.append_assoc, List.cons_append, List.nil_append, h]))
            all_goals first | omega | skip
            refine ⟨j+1, ?_, by omega, by omega⟩
            rw[prB_set hlt, hsn]
            exact head3 (E:=[_]) ho hw1 hK (by omega) (ro_cons rfl ro_nil) rfl
          | false=>
            (repeat' first|simp (disch:=omega) only[go_sem, ha2, hpg, hpl, hKw, hwl, hwg, hkn, hKr, hrl2, hc2, List.length_map, gL, sL, gP0, sP0, getP0, getP1, setP1, kS, List.length_append, List.length_cons, List.length_nil, Nat.zero_add, List.append_assoc, List.cons_append, List.nil_append]|(apply spl<;>intro h<;>try simp (disch:=omega) only[go_sem, ha2, hpg, hpl, hKw, hwl, hwg, hkn, hKr, hrl2, hc2, List.length_map, gL, sL, gP0, sP0, getP0, getP1, setP1, kS, List.length_append, List.length_cons, List.length_nil, Nat.zero_add, List.append_assoc, List.cons_append, List.nil_append, h]))
            all_goals first | omega | skip
            refine ⟨j+1, ?_, by omega, by omega⟩
            rw[prB_set hlt, hsn]
            exact head3 (E:=[_]) ho hw1 hK (by omega) (ro_cons rfl ro_nil) rfl
        · have hje:j=x.arcs.length:=by omega
          subst hje
          rw[List.take_of_length_le (Nat.le_refl _), prB_done hrow]
          (repeat' first|simp (disch:=omega) only[go_sem, List.length_map]|(apply spl<;>intro h<;>try simp (disch:=omega) only[go_sem, List.length_map, h]))
          all_goals first | omega | skip
          refine ⟨q+1, ?_, by omega, by omega⟩
          exact head2 (E:=[]) ho hw1 hK (by omega) ro_nil rfl
    · skip
      have hqe:q=m.length:=by omega
      subst hqe
      rw[prR_all]
      have hpl:((rowM m k).map AV.bool).length=m.length:=by rw[List.length_map, rowM_len]
      obtain ⟨r0, hr0⟩:=exAt (l:=rowM m k) (k:=0) (by rw[rowM_len]; omega)
      have hr1:((rowM m k).map AV.bool)[0]?=some (.bool r0):=mget hr0
      have hrd:(rowM m k).getD 0 false=r0:=by rw[List.getD_eq_getElem?_getD, hr0]; rfl
      by_cases hk0:k=0
      · have hw0:w = .snil 1:=by rw[←hw, hk0]; rfl
        have hwl:=hpl
        have hKw:=hK0
        have hk1:k+1=1:=by omega
        have heE:K++[Blk.row 1 ((rowM m k).map AV.bool) false true K.length, .row 1 [.sref 1 K.length 0 m.length] false false (K.length+1), .row 1 [.sref 1 K.length 0 m.length] false false (K.length+2)]=endH m els k K:=by
          subst hk0
          rfl
        rw[hw0]
        cases r0 with
        | false=>
          (repeat' first|simp (disch:=omega) only[go_sem, hpl, hr1, hwl, hKw, List.length_map, gL, sL, gP0, sP0, getP0, getP1, setP1, kS, List.length_append, List.length_cons, List.length_nil, Nat.zero_add, List.append_assoc, List.cons_append, List.nil_append]|(apply spl<;>intro h<;>try simp (disch:=omega) only[go_sem, hpl, hr1, hwl, hKw, List.length_map, gL, sL, gP0, sP0, getP0, getP1, setP1, kS, List.length_append, List.length_cons, List.length_nil, Nat.zero_add, List.append_assoc, List.cons_append, List.nil_append, h]))
          all_goals first | omega | skip
          have hl0:l=[]:=by
            have h1 : ¬ allS m k 0≠[]:=fun h=>by
              have:=(row_iff hv k 0 (by omega)).2 h
              rw[hrd] at this
              cases this
            rw[←hl, take_nil (by omega) (Classical.not_not.1 h1)]
          rw[if_pos hl0] at hI2 hmu
          refine ⟨(out++l, s+1, k+1), ?_, hI2, hmu⟩
          dsimp only
          rw[hnew, hl0, show strV []=[] from rfl, List.append_nil, heE]
          exact norm_endA hK (by omega) (by rw[ho, hk1]; rfl)
        | true=>
          have hm:strV ((allS m k 0).take (N-els.length))=strV l:=by rw[hel, hl]
          obtain ⟨hmn, hc⟩:=endH_call hs hv hK hrd (by omega) hN (by omega) hm
          have hl0:l≠[]:=fun e=>hmn (by rw[e]; rfl)
          rw[ho, ← heE, hme, hk1] at hc
          rw[if_neg hl0] at hI2 hmu
          (repeat' first|simp (disch:=omega) only[go_sem, hpl, hr1, hwl, hKw, hK0, List.length_map, gL, sL, gP0, sP0, getP0, getP1, setP1, kS, List.length_append, List.length_cons, List.length_nil, Nat.zero_add, List.append_assoc, List.cons_append, List.nil_append]|(refine call_of _ _ hc ?_)|(apply spl<;>intro h<;>try simp (disch:=omega) only[go_sem, hpl, hr1, hwl, hKw, hK0, List.length_map, gL, sL, gP0, sP0, getP0, getP1, setP1, kS, List.length_append, List.length_cons, List.length_nil, Nat.zero_add, List.append_assoc, List.cons_append, List.nil_append , h]))
          all_goals first | omega | skip
          refine ⟨(out++l, 1, k+1), ?_, hI2, hmu⟩
          dsimp only
          have hfin:=fun tm=>@norm_endB m [1, 2, 5, 6, 7] tm els (strV l) k N 1 0 K hK hmn (by omega)
          rw[hnew]
          rw[←heE, hk1] at hfin
          rw[hk1]
          simp only[List.append_assoc, List.cons_append, List.nil_append] at hfin
          exact hfin _ (by rw[List.length_append]; rfl)
      · have hw0:w = .sref 1 (dW els) 0 k:=by rw[←hw]; exact if_neg hk0
        have hKw:=hKw hk0
        have hdl:=(List.getElem?_eq_some_iff.1 hKw).1
        have hwl:(refsL m.length (List.range' (dW els+1) k)).length=k:=by simp [refsL]
        have hk1:k+1=k+1:=rfl
        have heE:K++[Blk.row 1 ((rowM m k).map AV.bool) false true K.length, .row 1 [.sref 1 K.length 0 m.length] false false (K.length+1), .row 1 (refsL m.length (List.range' (dW els+1) k)++[.sref 1 K.length 0 m.length]) false false (dW els)]=endH m els k K:=by
          unfold endH
          rw[if_neg hk0]
          simp [refsL, rowB]
        obtain ⟨ws, hws⟩ : ∃ ws, refsL m.length (List.range' (dW els+1) k)=ws:=⟨_, rfl⟩
        rw[hws] at hKw hwl heE
        rw[hw0]
        cases r0 with
        | false=>
          (repeat' first|simp (disch:=omega) only[go_sem, hpl, hr1, hwl, hKw, List.length_map, gL, sL, gP0, sP0, getP0, getP1, setP1, kS, List.length_append, List.length_cons, List.length_nil, Nat.zero_add, List.append_assoc, List.cons_append, List.nil_append]|(apply spl<;>intro h<;>try simp (disch:=omega) only[go_sem, hpl, hr1, hwl, hKw, List.length_map, gL, sL, gP0, sP0, getP0, getP1, setP1, kS, List.length_append, List.length_cons, List.length_nil, Nat.zero_add, List.append_assoc, List.cons_append, List.nil_append, h]))
          all_goals first | omega | skip
          have hl0:l=[]:=by
            have h1 : ¬ allS m k 0≠[]:=fun h=>by
              have:=(row_iff hv k 0 (by omega)).2 h
              rw[hrd] at this
              cases this
            rw[←hl, take_nil (by omega) (Classical.not_not.1 h1)]
          rw[if_pos hl0] at hI2 hmu
          refine ⟨(out++l, s+1, k+1), ?_, hI2, hmu⟩
          dsimp only
          rw[hnew, hl0, show strV []=[] from rfl, List.append_nil, heE]
          exact norm_endA hK (by omega) (by rw[ho, hk1]; rfl)
        | true=>
          have hm:strV ((allS m k 0).take (N-els.length))=strV l:=by rw[hel, hl]
          obtain ⟨hmn, hc⟩:=endH_call hs hv hK hrd (by omega) hN (by omega) hm
          have hl0:l≠[]:=fun e=>hmn (by rw[e]; rfl)
          rw[ho, ← heE, hme, hk1] at hc
          rw[if_neg hl0] at hI2 hmu
          (repeat' first|simp (disch:=omega) only[go_sem, hpl, hr1, hwl, hKw, hK0, List.length_map, gL, sL, gP0, sP0, getP0, getP1, setP1, kS, List.length_append, List.length_cons, List.length_nil, Nat.zero_add, List.append_assoc, List.cons_append, List.nil_append]|(refine call_of _ _ hc ?_)|(apply spl<;>intro h<;>try simp (disch:=omega) only[go_sem, hpl, hr1, hwl, hKw, hK0, List.length_map, gL, sL, gP0, sP0, getP0, getP1, setP1, kS, List.length_append, List.length_cons, List.length_nil, Nat.zero_add, List.append_assoc, List.cons_append, List.nil_append , h]))
          all_goals first | omega | skip
          refine ⟨(out++l, 1, k+1), ?_, hI2, hmu⟩
          dsimp only
          have hfin:=fun tm=>@norm_endB m [1, 2, 5, 6, 7] tm els (strV l) k N 1 0 K hK hmn (by omega)
          rw[hnew]
          rw[←heE, hk1] at hfin
          rw[hk1]
          simp only[List.append_assoc, List.cons_append, List.nil_append] at hfin
          exact hfin _ (by rw[List.length_append]; rfl)
  · have hfrz:frz K 6 (oV els)=some (.tsl 1 els):=by
      unfold oV
      split
      · rename_i h
        rw[h]
        rfl
      · rename_i h
        have:=KH_out (m:=m) (k:=k) h
        rw[hK] at this
        unfold frz
        rw[this]
        simp
    have hd:=hI.done h1
    dsimp only at hd
    rw[hd, hels]
    obtain ⟨o, ho⟩ : ∃ o, oV els=o:=⟨_, rfl⟩
    rw[ho] at hlo hfrz ⊢
    (repeat' first|simp (disch:=omega) only[go_sem, hlo, hfrz, hK0, List.length_map, hel]|(apply spl<;>intro h<;>try simp (disch:=omega) only[go_sem, hlo, hfrz, hK0, List.length_map, hel, h]))
    all_goals first | omega | skip
end Ago
