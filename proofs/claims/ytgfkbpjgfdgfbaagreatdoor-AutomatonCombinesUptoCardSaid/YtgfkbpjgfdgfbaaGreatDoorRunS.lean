/- Pairs: the reference's combine, And, Or and Minus; the law. -/
import Derived.Test.YtgfkbpjgfdgfbaaGreatDoorRunQ
import Derived.Test.YtgfkbpjgfdgfbaaGreatDoorRunN
import Derived.Test.YtgfkbpjgfdgfbaaGreatDoorRunK
set_option linter.unusedSimpArgs false
set_option linter.unusedVariables false
set_option maxRecDepth 100000
set_option maxHeartbeats 4000000
namespace Ago
open Go (IntKind)
theorem comb_val {K:Bool→Bool→Bool} {a b:List Sta} (ha:validM a=true) (hb:validM b=true):combM K a b=(pairO (pairM a b (by2 a b) K), pairE (pairM a b (by2 a b) K)):=by
  unfold combM
  rw[if_pos ⟨ha, hb⟩]
  cases pairM a b (by2 a b) K with
  | none=>rfl
  | some r=>rfl
theorem refComb_run (a b:List Sta) (ha:SmallM a) (hb:SmallM b) (op:Int) (K:Bool→Bool→Bool) (hop : ∀ u v:Bool, PRun CB 393 [.int .i64 op, .bool u, .bool v] (.bool (K u v))):PRun CB 347 [.int .i64 op, encMa a, encMa b] (.tup [encMa (combM K a b).1, .int .i64 (combM K a b).2]):=by
  have v1:=refValid_run a ha
  have v2:=refValid_run b hb
  refine prun_of ac347 rfl ?_
  cases hva:validM a with
  | false=>
    rw[show combM K a b=([], 1) by unfold combM; rw[hva, if_neg (by simp)]]
    rw[hva] at v1
    unfold encMa at *
    (repeat' first|simp (disch:=omega) only[go_sem, ac347, enter]|refine pure_of _ (v1) ?_|(apply spl<;>intro h<;>try simp (disch:=omega) only[go_sem, ac347, enter , h]))
    all_goals first | omega | rfl
  | true=>
    cases hvb:validM b with
    | false=>
      rw[show combM K a b=([], 1) by unfold combM; rw[hvb, if_neg (by simp)]]
      rw[hva] at v1
      rw[hvb] at v2
      unfold encMa at *
      (repeat' first|simp (disch:=omega) only[go_sem, ac347, enter]|refine pure_of _ (v1) ?_|refine pure_of _ (v2) ?_|(apply spl<;>intro h<;>try simp (disch:=omega) only[go_sem, ac347, enter , h]))
      all_goals first | omega | rfl
    | true=>
      have h1:=refPairs_run a b ha hb hva hvb op K hop
      rw[hva] at v1
      rw[hvb] at v2
      rw[comb_val hva hvb]
      obtain ⟨L, hL⟩ : ∃ L, pairO (pairM a b (by2 a b) K)=L:=⟨_, rfl⟩
      obtain ⟨e, he⟩ : ∃ e, pairE (pairM a b (by2 a b) K)=e:=⟨_, rfl⟩
      rw[hL, he] at h1 ⊢
      unfold encMa at *
      (repeat' first|simp (disch:=omega) only[go_sem, ac347, enter]|refine pure_of _ (v1) ?_|refine pure_of _ (v2) ?_|refine pure_of _ (h1) ?_|(apply spl<;>intro h<;>try simp (disch:=omega) only[go_sem, ac347, enter , h]))
      all_goals first | omega | rfl
theorem refAnd_run (a b:List Sta) (ha:SmallM a) (hb:SmallM b):PRun CB 320 [encMa a, encMa b] (.tup [encMa (combM (fun p q=>p && q) a b).1, .int .i64 (combM (fun p q=>p && q) a b).2]):=by
  have h:=refComb_run a b ha hb 1 _ refBoth_run1
  refine prun_of ac320 rfl ?_
  obtain ⟨r, hr⟩ : ∃ r, combM (fun p q=>p && q) a b=r:=⟨_, rfl⟩
  rw[hr] at h ⊢
  unfold encMa at *
  (repeat' first|simp (disch:=omega) only[go_sem, ac320, enter]|refine pure_of _ (h) ?_|(apply spl<;>intro h<;>try simp (disch:=omega) only[go_sem, ac320, enter , h]))
  all_goals first | omega | rfl
theorem refOr_run (a b:List Sta) (ha:SmallM a) (hb:SmallM b):PRun CB 323 [encMa a, encMa b] (.tup [encMa (combM (fun p q=>p || q) a b).1, .int .i64 (combM (fun p q=>p || q) a b).2]):=by
  have h:=refComb_run a b ha hb 2 _ refBoth_run2
  refine prun_of ac323 rfl ?_
  obtain ⟨r, hr⟩ : ∃ r, combM (fun p q=>p || q) a b=r:=⟨_, rfl⟩
  rw[hr] at h ⊢
  unfold encMa at *
  (repeat' first|simp (disch:=omega) only[go_sem, ac323, enter]|refine pure_of _ (h) ?_|(apply spl<;>intro h<;>try simp (disch:=omega) only[go_sem, ac323, enter , h]))
  all_goals first | omega | rfl
theorem refMinus_run (a b:List Sta) (ha:SmallM a) (hb:SmallM b):PRun CB 325 [encMa a, encMa b] (.tup [encMa (combM (fun p q=>p && !q) a b).1, .int .i64 (combM (fun p q=>p && !q) a b).2]):=by
  have h:=refComb_run a b ha hb 3 _ refBoth_run3
  refine prun_of ac325 rfl ?_
  obtain ⟨r, hr⟩ : ∃ r, combM (fun p q=>p && !q) a b=r:=⟨_, rfl⟩
  rw[hr] at h ⊢
  unfold encMa at *
  (repeat' first|simp (disch:=omega) only[go_sem, ac325, enter]|refine pure_of _ (h) ?_|(apply spl<;>intro h<;>try simp (disch:=omega) only[go_sem, ac325, enter , h]))
  all_goals first | omega | rfl
theorem numG_small {m:List Sta} {at':List Nat} {nx:List (List Nat)} {c:List Nat} (ha:at'.length<2^30) : ∀ (f i:Nat) (o:List Nat) (out:List Sta), (∀ s, s∈out→s.arcs.length<2^30)→(numG m at' nx c f i o out).length≤out.length+f∧∀ s, s∈numG m at' nx c f i o out→s.arcs.length<2^30
  | 0, _, _, out, h=>⟨Nat.le_refl _, h⟩
  | f+1, i, o, out, h=>by
    by_cases hlt:i<o.length
    · rw[numG_go hlt]
      obtain ⟨h1, h2⟩:=numG_small ha f (i+1) (ordGo c o (nx.getD (o.getD i 0) [])).2 (out++[⟨accM m (o.getD i 0), arcK at' (ordGo c o (nx.getD (o.getD i 0) [])).1 at'.length⟩]) (fun s hs=>by
        rcases List.mem_append.1 hs with hs | hs
        · exact h s hs
        · rw[List.mem_singleton.1 hs]
          exact Nat.lt_of_le_of_lt (arcK_len _ _ _) ha)
      refine ⟨?_, h2⟩
      rw[List.length_append, List.length_singleton] at h1
      omega
    · rw[numG_end hlt]
      exact ⟨by omega, h⟩
theorem small_comb (K:Bool→Bool→Bool) (a b:List Sta):SmallM (combM K a b).1:=by
  unfold combM
  split
  · rename_i hv
    cases hR:pairM a b (by2 a b) K with
    | none=>exact ⟨by simp, fun s h=>by cases h⟩
    | some m=>
      obtain ⟨hz, hsrt, _, hab⟩:=by2_ok (b:=b) hv.1
      have hvm:=pairM_valid hv.1 hv.2 hz hsrt hab hR
      have hm:=len_valid hvm
      obtain ⟨h1, h2⟩:=numG_small (m:=m) (at':=byM m) (nx:=nxM m) (c:=clsM m) (by have:=byM_len m; omega) (m.length+1) 0 [0] [] (fun s h=>by cases h)
      refine ⟨?_, h2⟩
      show (numG m (byM m) (nxM m) (clsM m) (m.length+1) 0 [0] []).length<_
      simp only[List.length_nil] at h1
      omega
  · exact ⟨by simp, fun s h=>by cases h⟩
theorem sameM_self (a:List Sta):sameM a a=true:=(sameM_eq a a).2 rfl
/-- The law AutomatonCombines. -/
theorem combines_run (hw:PRun CB 318 [] (.bool true)) (a b:List Sta) (ha:SmallM a) (hb:SmallM b):PRun CB 311 [encMa a, encMa b] (.bool true):=by
  obtain ⟨f1, hf1, hb1⟩:=few_run a 40 ha.1
  obtain ⟨f2, hf2, hb2⟩:=few_run b 40 hb.1
  refine prun_of ac311 rfl ?_
  cases f1 with
  | false=>
    unfold encMa at *
    (repeat' first|simp (disch:=omega) only[go_sem, ac311, enter, List.length_map]|refine pure_of _ (hf1) ?_|refine pure_of _ (hf2) ?_|refine pure_of _ (hw) ?_|(apply spl<;>intro h<;>try simp (disch:=omega) only[go_sem, ac311, enter, List.length_map , h]))
    all_goals first | omega | rfl
  | true=>
  cases f2 with
  | false=>
    unfold encMa at *
    (repeat' first|simp (disch:=omega) only[go_sem, ac311, enter, List.length_map]|refine pure_of _ (hf1) ?_|refine pure_of _ (hf2) ?_|refine pure_of _ (hw) ?_|(apply spl<;>intro h<;>try simp (disch:=omega) only[go_sem, ac311, enter, List.length_map , h]))
    all_goals first | omega | rfl
  | true=>
    have h1:=And_run a b ha hb
    have h2:=refAnd_run a b ha hb
    have h3:=Or_run a b ha hb
    have h4:=refOr_run a b ha hb
    have h5:=Minus_run a b ha hb
    have h6:=refMinus_run a b ha hb
    have s1:=small_comb (fun p q=>p && q) a b
    have s2:=small_comb (fun p q=>p || q) a b
    have s3:=small_comb (fun p q=>p && !q) a b
    have e1:=same_run _ _ s1 s1
    have e2:=same_run _ _ s2 s2
    have e3:=same_run _ _ s3 s3
    rw[sameM_self] at e1 e2 e3
    obtain ⟨r1, hr1⟩ : ∃ r, combM (fun p q=>p && q) a b=r:=⟨_, rfl⟩
    obtain ⟨r2, hr2⟩ : ∃ r, combM (fun p q=>p || q) a b=r:=⟨_, rfl⟩
    obtain ⟨r3, hr3⟩ : ∃ r, combM (fun p q=>p && !q) a b=r:=⟨_, rfl⟩
    rw[hr1] at h1 h2 e1
    rw[hr2] at h3 h4 e2
    rw[hr3] at h5 h6 e3
    unfold encMa at *
    (repeat' first|simp (disch:=omega) only[go_sem, ac311, enter, List.length_map]|refine pure_of _ (hf1) ?_|refine pure_of _ (hf2) ?_|refine pure_of _ (hw) ?_|refine pure_of _ (h1) ?_|refine pure_of _ (h2) ?_|refine pure_of _ (h3) ?_|refine pure_of _ (h4) ?_|refine pure_of _ (h5) ?_|refine pure_of _ (h6) ?_|refine pure_of _ (e1) ?_|refine pure_of _ (e2) ?_|refine pure_of _ (e3) ?_|(apply spl<;>intro h<;>try simp (disch:=omega) only[go_sem, ac311, enter, List.length_map , h]))
    all_goals first | omega | rfl
end Ago
