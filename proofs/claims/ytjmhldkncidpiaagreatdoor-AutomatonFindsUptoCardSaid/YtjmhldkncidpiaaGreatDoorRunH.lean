/- Shortest, Empty, and the law AutomatonFinds. -/
import Derived.Test.YtjmhldkncidpiaaGreatDoorRunG
set_option linter.unusedSimpArgs false
set_option linter.unusedVariables false
set_option maxRecDepth 100000
set_option maxHeartbeats 16000000
namespace Ago
open Go (IntKind)
def someA (m:List Sta) (n:Int):List (List UInt8):=if validM m=true∧0<n then refSomeM m n.toNat else []
theorem mu_small {m:List Sta} {N:Nat} (h:m.length≤20) (hN:N≤40):muS m N [] 0<3000:=by
  unfold muS
  have:(N-([]:List (List UInt8)).length) * (m.length+2)≤40 * 22:=Nat.mul_le_mul (by simp; omega) (by omega)
  omega
theorem some_bad (m:List Sta) (hs:SmallM m) (n:Int) (hv:validM m=false):PRun CB 328 [encMa m, .int .i64 n] (.tsl 1 []):=by
  have hme:encMa m = .agg [.tsl 2 (m.map encSta)]:=rfl
  have hvr:=valid_run m hs
  rw[hv] at hvr
  refine prun_of ac328 rfl ?_
  rw[hme] at hvr ⊢
  (repeat' first|simp (disch:=omega) only[go_sem, ac328, enter, List.length_map]|refine pure_of _ (hvr) ?_|(apply spl<;>intro h<;>try simp (disch:=omega) only[go_sem, ac328, enter, List.length_map , h]))
theorem refSome_zero (m:List Sta):refSomeM m 0=[]:=by
  unfold refSomeM
  exact someR_stop _ (by simp)
theorem someA_run (m:List Sta) (hs:SmallM m) (h20:m.length≤20) (n:Int) (hn:n≤40):PRun CB 328 [encMa m, .int .i64 n] (.tsl 1 (strV (someA m n))):=by
  unfold someA
  cases hv:validM m with
  | false=>
    rw[if_neg (by simp)]
    exact some_bad m hs n hv
  | true=>
    have:=someP_run m hs hv n n.toNat rfl (by omega) (mu_small h20 (by omega))
    by_cases h0:0<n
    · rw[if_pos ⟨rfl, h0⟩]
      exact this
    · rw[if_neg (fun h=>h0 h.2)]
      rw[show n.toNat=0 by omega, refSome_zero] at this
      exact this
theorem refSomeA_run (m:List Sta) (hs:SmallM m) (n:Int) (hn:n≤40):PRun CB 329 [encMa m, .int .i64 n] (.tsl 1 (strV (someA m n))):=by
  unfold someA
  cases hv:validM m with
  | false=>
    rw[if_neg (by simp)]
    exact refSome0_run m hs n (.inl hv)
  | true=>
    by_cases h0:0<n
    · rw[if_pos ⟨rfl, h0⟩]
      have:=refSome_run m hs hv n.toNat (by omega)
      rwa [show ((n.toNat:Nat):Int)=n by omega] at this
    · rw[if_neg (fun h=>h0 h.2)]
      exact refSome0_run m hs n (.inr (by omega))
def shortV (m:List Sta):AV:=match someA m 1 with
  | []=>.tup [.str [], .bool false]
  | w::_=>.tup [.str w, .bool true]
def emptyV (m:List Sta):Bool:=match someA m 1 with
  | []=>true
  | _::_=>false
theorem some_len {m:List Sta} {n:Nat} : ∀ (F:Nat) (out:List (List UInt8)) (s k:Nat), out.length≤n→(someR m n F out s k).length≤n
  | 0, out, _, _, h=>h
  | F+1, out, s, k, h=>by
    by_cases hc:out.length<n∧s≤m.length
    · rw[someR_go hc]
      refine some_len F _ _ _ ?_
      rw[List.length_append, List.length_take]
      omega
    · rw[someR_stop _ hc]
      exact h
theorem someA_le (m:List Sta) (n:Int):(someA m n).length≤n.toNat:=by
  unfold someA
  split
  · exact some_len _ _ _ _ (Nat.zero_le _)
  · exact Nat.zero_le _
theorem short_run (m:List Sta) (hs:SmallM m) (h20:m.length≤20):PRun CB 330 [encMa m] (shortV m):=by
  have hme:encMa m = .agg [.tsl 2 (m.map encSta)]:=rfl
  have hr:=someA_run m hs h20 1 (by omega)
  refine prun_of ac330 rfl ?_
  unfold shortV
  have hl:=someA_le m 1
  rw[hme] at hr ⊢
  cases hc:someA m 1 with
  | nil=>
    rw[hc, show strV []=[] from rfl] at hr
    (repeat' first|simp (disch:=omega) only[go_sem, ac330, enter, List.length_nil, cast0]|refine pure_of _ (hr) ?_|(apply spl<;>intro h<;>try simp (disch:=omega) only[go_sem, ac330, enter, List.length_nil, cast0 , h]))
    all_goals first | omega | skip
  | cons z l=>
    rw[hc] at hl hr
    have hl0:l=[]:=by simpa using hl
    subst hl0
    rw[show strV [z]=[.str z] from rfl] at hr
    (repeat' first|simp (disch:=omega) only[go_sem, ac330, enter, List.length_cons, List.length_nil, cast0]|refine pure_of _ (hr) ?_|(apply spl<;>intro h<;>try simp (disch:=omega) only[go_sem, ac330, enter, List.length_cons, List.length_nil, cast0 , h]))
    all_goals first | omega | skip
theorem refShort_run (m:List Sta) (hs:SmallM m):PRun CB 331 [encMa m] (shortV m):=by
  have hme:encMa m = .agg [.tsl 2 (m.map encSta)]:=rfl
  have hr:=refSomeA_run m hs 1 (by omega)
  refine prun_of ac331 rfl ?_
  unfold shortV
  have hl:=someA_le m 1
  rw[hme] at hr ⊢
  cases hc:someA m 1 with
  | nil=>
    rw[hc, show strV []=[] from rfl] at hr
    (repeat' first|simp (disch:=omega) only[go_sem, ac331, enter, List.length_nil, cast0]|refine pure_of _ (hr) ?_|(apply spl<;>intro h<;>try simp (disch:=omega) only[go_sem, ac331, enter, List.length_nil, cast0 , h]))
    all_goals first | omega | skip
  | cons z l=>
    rw[hc] at hl hr
    have hl0:l=[]:=by simpa using hl
    subst hl0
    rw[show strV [z]=[.str z] from rfl] at hr
    (repeat' first|simp (disch:=omega) only[go_sem, ac331, enter, List.length_cons, List.length_nil, cast0]|refine pure_of _ (hr) ?_|(apply spl<;>intro h<;>try simp (disch:=omega) only[go_sem, ac331, enter, List.length_cons, List.length_nil, cast0 , h]))
    all_goals first | omega | skip
theorem empty_run (m:List Sta) (hs:SmallM m) (h20:m.length≤20):PRun CB 332 [encMa m] (.bool (emptyV m)):=by
  have hme:encMa m = .agg [.tsl 2 (m.map encSta)]:=rfl
  have hr:=short_run m hs h20
  unfold shortV at hr
  refine prun_of ac332 rfl ?_
  unfold emptyV
  rw[hme] at hr ⊢
  cases hc:someA m 1 with
  | nil=>
    rw[hc] at hr
    (repeat' first|simp (disch:=omega) only[go_sem, ac332, enter]|refine pure_of _ (hr) ?_|(apply spl<;>intro h<;>try simp (disch:=omega) only[go_sem, ac332, enter , h]))
    all_goals first | omega | skip
  | cons z l=>
    rw[hc] at hr
    (repeat' first|simp (disch:=omega) only[go_sem, ac332, enter]|refine pure_of _ (hr) ?_|(apply spl<;>intro h<;>try simp (disch:=omega) only[go_sem, ac332, enter , h]))
    all_goals first | omega | skip
theorem refEmpty_run (m:List Sta) (hs:SmallM m):PRun CB 333 [encMa m] (.bool (emptyV m)):=by
  have hme:encMa m = .agg [.tsl 2 (m.map encSta)]:=rfl
  have hr:=refSomeA_run m hs 1 (by omega)
  refine prun_of ac333 rfl ?_
  unfold emptyV
  have hl:=someA_le m 1
  rw[hme] at hr ⊢
  cases hc:someA m 1 with
  | nil=>
    rw[hc, show strV []=[] from rfl] at hr
    (repeat' first|simp (disch:=omega) only[go_sem, ac333, enter, List.length_nil, cast0]|refine pure_of _ (hr) ?_|(apply spl<;>intro h<;>try simp (disch:=omega) only[go_sem, ac333, enter, List.length_nil, cast0 , h]))
    all_goals first | omega | skip
  | cons z l=>
    rw[hc] at hl hr
    have hl0:l=[]:=by simpa using hl
    subst hl0
    rw[show strV [z]=[.str z] from rfl] at hr
    (repeat' first|simp (disch:=omega) only[go_sem, ac333, enter, List.length_cons, List.length_nil, cast0]|refine pure_of _ (hr) ?_|(apply spl<;>intro h<;>try simp (disch:=omega) only[go_sem, ac333, enter, List.length_cons, List.length_nil, cast0 , h]))
    all_goals first | omega | skip
/-- The law AutomatonFinds. -/
theorem finds_run (hw:PRun CB 318 [] (.bool true)) (m:List Sta) (hs:SmallM m) (n:Int):PRun CB 313 [encMa m, .int .i64 n] (.bool true):=by
  have hme:encMa m = .agg [.tsl 2 (m.map encSta)]:=rfl
  obtain ⟨b, hf, hb⟩:=few_run m 20 hs.1
  refine prun_of ac313 rfl ?_
  rw[hme] at hf ⊢
  cases b with
  | false=>
    (repeat' first|simp (disch:=omega) only[go_sem, ac313, enter, List.length_map]|refine pure_of _ (hf) ?_|refine pure_of _ (hw) ?_|(apply spl<;>intro h<;>try simp (disch:=omega) only[go_sem, ac313, enter, List.length_map , h]))
    all_goals first | omega | skip
  | true=>
    obtain ⟨h20, _⟩:=hb rfl
    by_cases hn:n≤40
    · have h1:=someA_run m hs (by omega) n hn
      have h2:=refSomeA_run m hs n hn
      have h3:=short_run m hs (by omega)
      have h4:=refShort_run m hs
      have h5:=empty_run m hs (by omega)
      have h6:=refEmpty_run m hs
      have hle:=someA_le m n
      rw[hme] at h1 h2 h3 h4 h5 h6
      obtain ⟨l, hl⟩ : ∃ l, someA m n=l:=⟨_, rfl⟩
      rw[hl] at h1 h2 hle
      obtain ⟨ls, hls⟩ : ∃ ls, strV l=ls:=⟨_, rfl⟩
      have hll:ls.length=l.length:=by rw[←hls]; simp [strV]
      rw[hls] at h1 h2
      (repeat' first|simp (disch:=omega) only[go_sem, ac313, enter, List.length_map]|refine pure_of _ (hf) ?_|refine pure_of _ (hw) ?_|refine pure_of _ (h1) ?_|refine pure_of _ (h2) ?_|(apply spl<;>intro h<;>try simp (disch:=omega) only[go_sem, ac313, enter, List.length_map , h]))
      all_goals first | omega | skip
      refine loop_of (α:=Nat) (fun k=>{ tmps:=slots 74 [(2, .ptr 1 0 0 0), (5, .tsl 1 ls), (6, .tsl 1 ls), (7, .int .i64 k)], heap:=[.row 1 [.agg [.tsl 2 (m.map encSta)]] false true 0], base:=0 }) (fun k=>k≤ls.length) (fun k=>ls.length-k) 0 rfl (Nat.zero_le _) ?_
      intro k hk
      by_cases hkl:k<ls.length
      · obtain ⟨x, hx⟩:=exAt hkl
        obtain ⟨w, hw2⟩ : ∃ w, x = .str w:=by
          have hx1:=hx
          rw[←hls] at hx1
          unfold strV at hx1
          rw[List.getElem?_map] at hx1
          cases hc:l[k]? with
          | none=>rw[hc] at hx1; cases hx1
          | some w=>
            rw[hc] at hx1
            exact ⟨w, (Option.some.inj hx1).symm⟩
        subst hw2
        (repeat' first|simp (disch:=omega) only[go_sem, hx, List.length_map]|(apply spl<;>intro h<;>try simp (disch:=omega) only[go_sem, hx, List.length_map, h]))
        all_goals first | omega | skip
        exact ⟨k+1, rfl, by omega, by omega⟩
      · have hke:k=ls.length:=by omega
        unfold shortV emptyV at *
        cases hc:someA m 1 with
        | nil=>
          rw[hc] at h3 h4 h5 h6
          (repeat' first|simp (disch:=omega) only[go_sem, List.length_map]|refine pure_of _ (hw) ?_|refine pure_of _ (h3) ?_|refine pure_of _ (h4) ?_|refine pure_of _ (h5) ?_|refine pure_of _ (h6) ?_|(apply spl<;>intro h<;>try simp (disch:=omega) only[go_sem, List.length_map , h]))
          all_goals first | omega | skip
        | cons z l2=>
          rw[hc] at h3 h4 h5 h6
          (repeat' first|simp (disch:=omega) only[go_sem, List.length_map]|refine pure_of _ (hw) ?_|refine pure_of _ (h3) ?_|refine pure_of _ (h4) ?_|refine pure_of _ (h5) ?_|refine pure_of _ (h6) ?_|(apply spl<;>intro h<;>try simp (disch:=omega) only[go_sem, List.length_map , h]))
          all_goals first | omega | skip
    · (repeat' first|simp (disch:=omega) only[go_sem, ac313, enter, List.length_map]|refine pure_of _ (hf) ?_|refine pure_of _ (hw) ?_|(apply spl<;>intro h<;>try simp (disch:=omega) only[go_sem, ac313, enter, List.length_map , h]))
      all_goals first | omega | skip
end Ago
