/- Least automata: numbered: a round of the inner loop, where states are there. -/
import Derived.Test.YtgfkbpjgfdgfbaaGreatDoorRunC
set_option linter.unusedSimpArgs false
set_option linter.unusedVariables false
set_option maxRecDepth 100000
set_option maxHeartbeats 16000000
namespace Ago
open Go (IntKind)
theorem nu_round6 {Q:Ex→St→Prop} (m:List Sta) (at':List Nat) (nx:List (List Nat)) (c:List Nat) (hm:m.length<2^20) (hal:at'.length≤256) (hab : ∀ b, b∈at'→b<256) (hC : ∀ t, t<m.length→(c.map encN)[t]?=some (.int .i64 (clO c t)))
    (i:Nat) (o:List Nat) (s:Sta) (ls:List Sta) (hls:ls.length<2^20) (hol : ∀ t, t∈o→t<m.length) (hon:(o.map (clO c)).Nodup) (l:List Nat) (hll:l.length=at'.length) (hlt2 : ∀ t, t∈l→t<m.length) (acc:Bool) (k:Nat) (hkt:k<l.length) :
    aw (RunOf CB) (PRun CB) (ac372.lp 1) (awThen (fun t=>∃ a', t.norm [1, 2, 3, 4, 8, 9, 10, 11, 12, 14, 45, 46, 47]=nuT m at' nx c i o (s::ls) 6 l acc a'∧a'≤l.length∧l.length-a'<l.length-k) Q) (nuT m at' nx c i o (s::ls) 6 l acc k):=by
  simp only[AFn.lp, ac372, ACode.loopsOf, List.cons_append, List.append_nil, List.nil_append, List.getD_cons_succ, List.getD_cons_zero]
  obtain ⟨⟨ns, o'⟩, hr⟩ : ∃ r, ordGo c o (l.take k)=r:=⟨_, rfl⟩
  have hnl2:ns.length=k:=by
    have:=ordGo_len c (l.take k) o
    rw[hr, List.length_take] at this
    dsimp only at this
    omega
  have hlow : ∀ t, t∈o'→t<m.length:=by
    have:=ordGo_low (c:=c) hol (l:=l.take k) fun t ht=>hlt2 t (List.mem_of_mem_take ht)
    rw[hr] at this
    exact this
  have hnd:(o'.map (clO c)).Nodup:=by
    have:=ordGo_nodup c (l.take k) o hon
    rw[hr] at this
    exact this
  have hos':=ord_small hlow hnd
  have hMR:(Blk.map (nmE ((o'.map (clO c)).map encN))).refs=[]:=nmE_refs (still_nums _)
  have hMN : ∀ f g, Blk.ren f g (.map (nmE ((o'.map (clO c)).map encN))) = .map (nmE ((o'.map (clO c)).map encN)):=nmE_ren (still_nums _)
  have hKl:=arcK_len at' ns k
  obtain ⟨t, ht⟩:=exAt hkt
  have htm:=hlt2 t (List.mem_of_getElem? ht)
  have ht2:(l.map encN)[k]?=some (.int .i64 t):=mget ht
  have hct:=hC t htm
  obtain ⟨b, hb⟩:=exAt (show k<at'.length by omega)
  have hb2:(at'.map encN)[k]?=some (.int .i64 b):=mget hb
  have hb3:at'.getD k 0=b:=by rw[List.getD_eq_getElem?_getD, hb]; rfl
  have hh:=hiOf_run at' (by omega) hab k (by omega)
  have hf:findKey (.one .int) (.int .i64 (clO c t)) (nmE ((o'.map (clO c)).map encN)) 0=_:=find_num (clO c t) (o'.map (clO c)) 0 0
  have hT:l.take (k+1)=l.take k++[t]:=by rw[List.take_add_one, ht]; rfl
  have hS:=ordGo_snoc c t (l.take k) o
  rw[hr] at hS
  dsimp only at hS
  rw[←hT] at hS
  simp only[Nat.zero_add] at hf
  have hA0 : ∀ j:Nat, arcK at' (ns++[j]) (k+1)=arcF (arcK at' ns k) b (hiN at' k) j:=fun j=>by
    rw[arcK, arcK_pre at' ns [j] k (by omega), hb3]
    congr 1
    rw[List.getD_eq_getElem?_getD, List.getElem?_append_right (by omega), hnl2, Nat.sub_self]
    rfl
  obtain ⟨A, hA⟩ : ∃ A, arcK at' ns k=A:=⟨_, rfl⟩
  rw[hA] at hA0 hKl
  by_cases hin:clO c t∈o'.map (clO c)
  · rw[if_pos hin] at hf hS
    obtain ⟨j, hj⟩ : ∃ j, (o'.map (clO c)).idxOf (clO c t)=j:=⟨_, rfl⟩
    rw[hj] at hf hS
    have hA1:=hA0 j
    rcases last_cases A with rfl | ⟨az, a, rfl⟩
    · rw[arcF_nil] at hA1
      rw[nuT, hr]
      dsimp only
      rw[hA, nuA_nil, nuH, nuO_cons]
      (repeat' first|simp (disch:=omega) only[go_sem, List.length_map, ht2, hct, hb2, hf]|refine pure_of _ (hh) ?_|(apply spl<;>intro h<;>try simp (disch:=omega) only[go_sem, List.length_map, ht2, hct, hb2, hf , h]))
      all_goals try omega
      refine call_of _ _ (addArc_nil (cl_of (n:=7) rfl (by repeat' first | exact all_nil | (refine all_cons ?_ ?_) | exact clb_flat (by decide) | exact clb_map (still_nums _) | exact clb_box1 (by decide) (by decide) | exact clb_box2 (by decide) (by decide) | exact clb_one (by decide) (by decide) | exact clb_gone | exact clb_resv)) b (hiN at' k) j) ?_
      (repeat' first|simp (disch:=omega) only[go_sem]|(apply spl<;>intro h<;>try simp (disch:=omega) only[go_sem, h]))
      all_goals try omega
      refine ⟨k+1, ?_, by omega, by omega⟩
      rw[nuT, hS]
      dsimp only
      rw[hA1, ← List.nil_append [(⟨b, hiN at' k, j⟩:Arc)], nuA_snoc, nuH, nuO_cons]
      refine (norm_by0 [[], [], [], [], [5], [], [7], []] [0, 1, 2, 3, 4, 5, 6, 7] (by simp only[List.map_cons, List.map_nil, List.cons_append, List.nil_append, hMR]; rfl) rfl rfl rfl rfl ?_)
      simp only[List.map_cons, List.map_nil, List.cons_append, List.nil_append, List.getD_eq_getElem?_getD, List.getElem?_cons_zero, List.getElem?_cons_succ, Option.getD_some, hMN]
      rfl
    · have hal2:az.length+1≤k:=by simpa using hKl
      by_cases haj:a.next=(j:Int)
      · rw[arcF_same haj] at hA1
        rw[nuT, hr]
        dsimp only
        rw[hA, nuA_snoc, nuH, nuO_cons]
        (repeat' first|simp (disch:=omega) only[go_sem, List.length_map, ht2, hct, hb2, hf]|refine pure_of _ (hh) ?_|(apply spl<;>intro h<;>try simp (disch:=omega) only[go_sem, List.length_map, ht2, hct, hb2, hf , h]))
        all_goals try omega
        refine call_of _ _ (addArc_same (cl_of (n:=8) rfl (by repeat' first | exact all_nil | (refine all_cons ?_ ?_) | exact clb_flat (by decide) | exact clb_map (still_nums _) | exact clb_box1 (by decide) (by decide) | exact clb_box2 (by decide) (by decide) | exact clb_one (by decide) (by decide) | exact clb_gone | exact clb_resv)) (l:=az) (a:=a) (r:=6+1) (fam:=6+1) rfl (lone_of (l:=[7]) (by decide) rfl) (by show 6+1<8; decide) (by omega) b (hiN at' k) j haj) ?_
        (repeat' first|simp (disch:=omega) only[go_sem]|(apply spl<;>intro h<;>try simp (disch:=omega) only[go_sem, h]))
        all_goals try omega
        refine ⟨k+1, ?_, by omega, by omega⟩
        rw[nuT, hS]
        dsimp only
        rw[hA1, nuA_snoc, nuH, nuO_cons]
        refine (norm_by0 [[], [], [], [], [5], [], [7], []] [0, 1, 2, 3, 4, 5, 6, 7] (by simp only[List.map_cons, List.map_nil, List.cons_append, List.nil_append, hMR]; rfl) rfl rfl rfl rfl ?_)
        simp only[List.map_cons, List.map_nil, List.cons_append, List.nil_append, List.getD_eq_getElem?_getD, List.getElem?_cons_zero, List.getElem?_cons_succ, Option.getD_some, hMN]
        rfl
      · rw[arcF_diff haj] at hA1
        rw[nuT, hr]
        dsimp only
        rw[hA, nuA_snoc, nuH, nuO_cons]
        (repeat' first|simp (disch:=omega) only[go_sem, List.length_map, ht2, hct, hb2, hf]|refine pure_of _ (hh) ?_|(apply spl<;>intro h<;>try simp (disch:=omega) only[go_sem, List.length_map, ht2, hct, hb2, hf , h]))
        all_goals try omega
        refine call_of _ _ (addArc_diff (cl_of (n:=8) rfl (by repeat' first | exact all_nil | (refine all_cons ?_ ?_) | exact clb_flat (by decide) | exact clb_map (still_nums _) | exact clb_box1 (by decide) (by decide) | exact clb_box2 (by decide) (by decide) | exact clb_one (by decide) (by decide) | exact clb_gone | exact clb_resv)) (l:=az) (a:=a) (r:=6+1) (fam:=6+1) rfl (lone_of (l:=[7]) (by decide) rfl) (by show 6+1<8; decide) (by omega) b (hiN at' k) j haj) ?_
        (repeat' first|simp (disch:=omega) only[go_sem]|(apply spl<;>intro h<;>try simp (disch:=omega) only[go_sem, h]))
        all_goals try omega
        refine ⟨k+1, ?_, by omega, by omega⟩
        rw[nuT, hS]
        dsimp only
        rw[hA1, nuA_snoc, nuH, nuO_cons, List.length_append]
        refine (norm_by0 [[], [], [], [], [5], [], [8], [], []] [0, 1, 2, 3, 4, 5, 6, 8] (by simp only[List.map_cons, List.map_nil, List.cons_append, List.nil_append, hMR]; rfl) rfl rfl rfl rfl ?_)
        simp only[List.map_cons, List.map_nil, List.cons_append, List.nil_append, List.getD_eq_getElem?_getD, List.getElem?_cons_zero, List.getElem?_cons_succ, Option.getD_some, hMN]
        rfl
  · rw[if_neg hin] at hf hS
    have hA1:=hA0 o'.length
    have hMR2:(Blk.map (nmE (((o'++[t]).map (clO c)).map encN))).refs=[]:=nmE_refs (still_nums _)
    have hMN2 : ∀ f g, Blk.ren f g (.map (nmE (((o'++[t]).map (clO c)).map encN))) = .map (nmE (((o'++[t]).map (clO c)).map encN)):=nmE_ren (still_nums _)
    have hE:nmE ((o'.map (clO c)).map encN)++[(.int .i64 (clO c t), .int .i64 o'.length)]=nmE (((o'++[t]).map (clO c)).map encN):=by
      have:=nmE_snoc ((o'.map (clO c)).map encN) (encN (clO c t))
      rw[List.length_map, List.length_map] at this
      rw[List.map_append, List.map_append]
      exact this
    have hO:o'.map encN++[.int .i64 t]=(o'++[t]).map encN:=by rw[List.map_append]; rfl
    rcases last_cases A with rfl | ⟨az, a, rfl⟩
    · rw[arcF_nil] at hA1
      rw[nuT, hr]
      dsimp only
      rw[hA, nuA_nil, nuH, nuO_cons]
      (repeat' first|simp (disch:=omega) only[go_sem, List.length_map, ht2, hct, hb2, hf, hE, hO]|refine pure_of _ (hh) ?_|(apply spl<;>intro h<;>try simp (disch:=omega) only[go_sem, List.length_map, ht2, hct, hb2, hf, hE, hO , h]))
      all_goals try omega
      refine call_of _ _ (addArc_nil (cl_of (n:=9) rfl (by repeat' first | exact all_nil | (refine all_cons ?_ ?_) | exact clb_flat (by decide) | exact clb_map (still_nums _) | exact clb_box1 (by decide) (by decide) | exact clb_box2 (by decide) (by decide) | exact clb_one (by decide) (by decide) | exact clb_gone | exact clb_resv)) b (hiN at' k) o'.length) ?_
      (repeat' first|simp (disch:=omega) only[go_sem]|(apply spl<;>intro h<;>try simp (disch:=omega) only[go_sem, h]))
      all_goals try omega
      refine ⟨k+1, ?_, by omega, by omega⟩
      rw[nuT, hS]
      dsimp only
      rw[hA1, ← List.nil_append [(⟨b, hiN at' k, o'.length⟩:Arc)], nuA_snoc, nuH, nuO_cons, List.length_append]
      refine (norm_by0 [[], [], [], [], [5], [], [9], [], [], []] [0, 1, 2, 8, 4, 5, 6, 9] (by simp only[List.map_cons, List.map_nil, List.cons_append, List.nil_append, hMR2]; rfl) rfl rfl rfl rfl ?_)
      simp only[List.map_cons, List.map_nil, List.cons_append, List.nil_append, List.getD_eq_getElem?_getD, List.getElem?_cons_zero, List.getElem?_cons_succ, Option.getD_some, hMN2]
      rfl
    · have hal2:az.length+1≤k:=by simpa using hKl
      by_cases haj:a.next=(o'.length:Int)
      · rw[arcF_same haj] at hA1
        rw[nuT, hr]
        dsimp only
        rw[hA, nuA_snoc, nuH, nuO_cons]
        (repeat' first|simp (disch:=omega) only[go_sem, List.length_map, ht2, hct, hb2, hf, hE, hO]|refine pure_of _ (hh) ?_|(apply spl<;>intro h<;>try simp (disch:=omega) only[go_sem, List.length_map, ht2, hct, hb2, hf, hE, hO , h]))
        all_goals try omega
        refine call_of _ _ (addArc_same (cl_of (n:=10) rfl (by repeat' first | exact all_nil | (refine all_cons ?_ ?_) | exact clb_flat (by decide) | exact clb_map (still_nums _) | exact clb_box1 (by decide) (by decide) | exact clb_box2 (by decide) (by decide) | exact clb_one (by decide) (by decide) | exact clb_gone | exact clb_resv)) (l:=az) (a:=a) (r:=6+1) (fam:=6+1) rfl (lone_of (l:=[7]) (by decide) rfl) (by show 6+1<10; decide) (by omega) b (hiN at' k) o'.length haj) ?_
        (repeat' first|simp (disch:=omega) only[go_sem]|(apply spl<;>intro h<;>try simp (disch:=omega) only[go_sem, h]))
        all_goals try omega
        refine ⟨k+1, ?_, by omega, by omega⟩
        rw[nuT, hS]
        dsimp only
        rw[hA1, nuA_snoc, nuH, nuO_cons, List.length_append]
        refine (norm_by0 [[], [], [], [], [5], [], [7], [], [], []] [0, 1, 2, 9, 4, 5, 6, 7] (by simp only[List.map_cons, List.map_nil, List.cons_append, List.nil_append, hMR2]; rfl) rfl rfl rfl rfl ?_)
        simp only[List.map_cons, List.map_nil, List.cons_append, List.nil_append, List.getD_eq_getElem?_getD, List.getElem?_cons_zero, List.getElem?_cons_succ, Option.getD_some, hMN2]
        rfl
      · rw[arcF_diff haj] at hA1
        rw[nuT, hr]
        dsimp only
        rw[hA, nuA_snoc, nuH, nuO_cons]
        (repeat' first|simp (disch:=omega) only[go_sem, List.length_map, ht2, hct, hb2, hf, hE, hO]|refine pure_of _ (hh) ?_|(apply spl<;>intro h<;>try simp (disch:=omega) only[go_sem, List.length_map, ht2, hct, hb2, hf, hE, hO , h]))
        all_goals try omega
        refine call_of _ _ (addArc_diff (cl_of (n:=10) rfl (by repeat' first | exact all_nil | (refine all_cons ?_ ?_) | exact clb_flat (by decide) | exact clb_map (still_nums _) | exact clb_box1 (by decide) (by decide) | exact clb_box2 (by decide) (by decide) | exact clb_one (by decide) (by decide) | exact clb_gone | exact clb_resv)) (l:=az) (a:=a) (r:=6+1) (fam:=6+1) rfl (lone_of (l:=[7]) (by decide) rfl) (by show 6+1<10; decide) (by omega) b (hiN at' k) o'.length haj) ?_
        (repeat' first|simp (disch:=omega) only[go_sem]|(apply spl<;>intro h<;>try simp (disch:=omega) only[go_sem, h]))
        all_goals try omega
        refine ⟨k+1, ?_, by omega, by omega⟩
        rw[nuT, hS]
        dsimp only
        rw[hA1, nuA_snoc, nuH, nuO_cons, List.length_append, List.length_append]
        refine (norm_by0 [[], [], [], [], [5], [], [10], [], [], [], []] [0, 1, 2, 9, 4, 5, 6, 10] (by simp only[List.map_cons, List.map_nil, List.cons_append, List.nil_append, hMR2]; rfl) rfl rfl rfl rfl ?_)
        simp only[List.map_cons, List.map_nil, List.cons_append, List.nil_append, List.getD_eq_getElem?_getD, List.getElem?_cons_zero, List.getElem?_cons_succ, Option.getD_some, hMN2]
        rfl
end Ago
