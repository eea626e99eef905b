/- The reference's Some, Shortest, Empty. -/
import Derived.Test.YtjmhldkncidpiaaGreatDoorRunB
import Derived.Test.YtjmhldkncidpiaaGreatDoorRunA
set_option linter.unusedSimpArgs false
set_option linter.unusedVariables false
set_option maxRecDepth 100000
set_option maxHeartbeats 8000000
namespace Ago
open Go (IntKind)
def someR (m:List Sta) (n:Nat):Nat→List (List UInt8)→Nat→Nat→List (List UInt8)
  | 0, out, _, _=>out
  | f+1, out, no, k=>if out.length<n∧no≤m.length then
      someR m n f (out++(allS m k 0).take (n-out.length)) (if (allS m k 0).take (n-out.length)=[] then no+1 else 0) (k+1) else out
def muS (m:List Sta) (n:Nat) (out:List (List UInt8)) (no:Nat):Nat:=(n-out.length) * (m.length+2)+(m.length+1-no)
theorem mu_nil {m:List Sta} {n no:Nat} {out:List (List UInt8)} (h:no≤m.length):muS m n out (no+1)<muS m n out no:=by
  unfold muS
  omega
theorem mu_cons {m:List Sta} {n no:Nat} {out l:List (List UInt8)} (h:out.length<n) (hl:l≠[]):muS m n (out++l) 0<muS m n out no:=by
  unfold muS
  have:1≤l.length:=List.length_pos_iff.2 hl
  rw[List.length_append]
  have h2:(n-(out.length+l.length)) * (m.length+2)+(m.length+2)≤(n-out.length) * (m.length+2):=by
    rw[←Nat.succ_mul]
    exact Nat.mul_le_mul_right _ (by omega)
  omega
structure SomeI (m:List Sta) (n:Nat) (R:List (List UInt8)) (B:Nat) (a:List (List UInt8) × Nat × Nat):Prop where
  res : ∃ F, muS m n a.1 a.2.1<F∧someR m n F a.1 a.2.1 a.2.2=R
  bnd:a.2.2+muS m n a.1 a.2.1≤B
  len:a.1.length≤n
theorem SomeI.init (m:List Sta) (n:Nat):SomeI m n (someR m n (muS m n [] 0+1) [] 0 0) (muS m n [] 0) ([], 0, 0):=⟨⟨_, Nat.lt_succ_self _, rfl⟩, by simp, Nat.zero_le _⟩
theorem SomeI.step {m:List Sta} {n B:Nat} {R:List (List UInt8)} {a:List (List UInt8) × Nat × Nat} (h:SomeI m n R B a) (h1:a.1.length<n) (h2:a.2.1≤m.length) {l:List (List UInt8)} (hl:(allS m a.2.2 0).take (n-a.1.length)=l) :
    SomeI m n R B (a.1++l, (if l=[] then a.2.1+1 else 0), a.2.2+1)∧muS m n (a.1++l) (if l=[] then a.2.1+1 else 0)<muS m n a.1 a.2.1:=by
  obtain ⟨out, no, k⟩:=a
  dsimp only at *
  have hmu:muS m n (out++l) (if l=[] then no+1 else 0)<muS m n out no:=by
    by_cases he:l=[]
    · rw[if_pos he, he, List.append_nil]
      exact mu_nil h2
    · rw[if_neg he]
      exact mu_cons h1 he
  obtain ⟨⟨F, f1, f2⟩, b1, b2⟩:=h
  dsimp only at f1 f2 b1 b2
  refine ⟨⟨?_, by dsimp only; omega, ?_⟩, hmu⟩
  · cases F with
    | zero=>omega
    | succ F=>
      refine ⟨F, by dsimp only; omega, ?_⟩
      dsimp only
      have e:someR m n (F+1) out no k=if out.length<n∧no≤m.length then someR m n F (out++(allS m k 0).take (n-out.length)) (if (allS m k 0).take (n-out.length)=[] then no+1 else 0) (k+1) else out:=rfl
      rw[←f2, e, if_pos (c:=out.length<n∧no≤m.length) ⟨h1, h2⟩, hl]
  · dsimp only
    rw[List.length_append, ← hl, List.length_take]
    omega
theorem SomeI.done {m:List Sta} {n B:Nat} {R:List (List UInt8)} {a:List (List UInt8) × Nat × Nat} (h:SomeI m n R B a) (h1 : ¬ (a.1.length<n∧a.2.1≤m.length)):R=a.1:=by
  obtain ⟨⟨F, f1, f2⟩, _, _⟩:=h
  rw[←f2]
  cases F with
  | zero=>rfl
  | succ F=>exact if_neg h1
def refSomeM (m:List Sta) (n:Nat):List (List UInt8):=someR m n (muS m n [] 0+1) [] 0 0
theorem mu_le {m:List Sta} {n:Nat} (hv:validM m=true) (hn:n≤1024):muS m n [] 0<2^21:=by
  have:m.length≤1024:=by
    unfold validM at hv
    simp only[Bool.and_eq_true, decide_eq_true_eq] at hv
    exact hv.1.2
  unfold muS
  have:(n-([]:List (List UInt8)).length) * (m.length+2)≤1024 * 1026:=Nat.mul_le_mul (by simp; omega) (by omega)
  omega
theorem refSome0_run (m:List Sta) (hs:SmallM m) (n:Int) (h:validM m=false∨n≤0):PRun CB 329 [encMa m, .int .i64 n] (.tsl 1 []):=by
  have hme:encMa m = .agg [.tsl 2 (m.map encSta)]:=rfl
  have hr:=refValid_run m hs
  refine prun_of ac329 rfl ?_
  rw[hme] at hr ⊢
  cases hv:validM m with
  | false=>
    rw[hv] at hr
    (repeat' first|simp (disch:=omega) only[go_sem, ac329, enter]|refine pure_of _ (hr) ?_|(apply spl<;>intro h<;>try simp (disch:=omega) only[go_sem, ac329, enter , h]))
  | true=>
    rw[hv] at hr
    have hn:n≤0:=by
      rcases h with h | h
      · rw[hv] at h; cases h
      · exact h
    have hmin:(if (1024:Int)<n then 1024 else n)=n:=if_neg (by omega)
    (repeat' first|simp (disch:=omega) only[go_sem, ac329, enter, hmin]|refine pure_of _ (hr) ?_|(apply spl<;>intro h<;>try simp (disch:=omega) only[go_sem, ac329, enter, hmin , h]))
    all_goals first | omega | skip
    refine loop_of (α:=Unit) (fun _=>{ tmps:=slots 43 [(1, .int .i64 n), (2, .ptr 1 0 0 0), (5, .snil 1), (6, .int .i64 0), (7, .int .i64 0)], heap:=[.row 1 [encMa m] false true 0], base:=0 }) (fun _=>True) (fun _=>0) () (by rw[hme]; rfl) trivial ?_
    intro _ _
    rw[hme]
    (repeat' first|simp (disch:=omega) only[go_sem]|(apply spl<;>intro h<;>try simp (disch:=omega) only[go_sem, h]))
    all_goals first | omega | skip
theorem refSome_run (m:List Sta) (hs:SmallM m) (hv:validM m=true) (n:Nat) (hn:n≤1024):PRun CB 329 [encMa m, .int .i64 n] (.tsl 1 (strV (refSomeM m n))):=by
  have hme:encMa m = .agg [.tsl 2 (m.map encSta)]:=rfl
  have hv1:=valid_len hv
  have hr:=refValid_run m hs
  have hmu0:=mu_le hv hn
  have hmm:=hs.1
  have hmin:(if (1024:Int)<(n:Int) then 1024 else (n:Int))=n:=if_neg (by omega)
  obtain ⟨R, hR⟩ : ∃ R, refSomeM m n=R:=⟨_, rfl⟩
  rw[hR]
  refine prun_of ac329 rfl ?_
  rw[hv, hme] at hr
  rw[hme]
  (repeat' first|simp (disch:=omega) only[go_sem, ac329, enter, hmin]|refine pure_of _ (hr) ?_|(apply spl<;>intro h<;>try simp (disch:=omega) only[go_sem, ac329, enter, hmin , h]))
  all_goals first | omega | skip
  refine loop_of (α:=List (List UInt8) × Nat × Nat) (fun a=>{ tmps:=slots 43 [(1, .int .i64 n), (2, .ptr 1 0 0 0), (5, outSl 1 1 (strV a.1)), (6, .int .i64 a.2.1), (7, .int .i64 a.2.2)], heap:=[.row 1 [encMa m] false true 0]++outHp 1 1 (strV a.1), base:=0 }) (SomeI m n R (muS m n [] 0)) (fun a=>muS m n a.1 a.2.1) ([], 0, 0) (by rw[hme]; rfl) (hR▸SomeI.init m n) ?_
  rintro ⟨out, no, k⟩ hI
  have hb:=hI.bnd
  have hlen:=hI.len
  dsimp only at hb hlen ⊢
  rw[hme]
  obtain ⟨els, hels⟩ : ∃ els, strV out=els:=⟨_, rfl⟩
  have hel:els.length=out.length:=by rw[←hels]; simp [strV]
  by_cases h1:out.length<n∧no≤m.length
  · obtain ⟨h1, h2⟩:=h1
    obtain ⟨l, hl⟩ : ∃ l, (allS m k 0).take (n-out.length)=l:=⟨_, rfl⟩
    obtain ⟨hI2, hmu⟩:=hI.step h1 h2 hl
    dsimp only at hI2 hmu
    have hr2:=strings_run m hs hv k 0 ((n:Int)-els.length) (by omega) (by omega) (by omega) (by omega)
    rw[show ((n:Int)-els.length).toNat=n-out.length by omega, hl, hme] at hr2
    have hll:l.length<2^30:=by rw[←hl, List.length_take]; omega
    rw[hels]
    obtain ⟨lv, hlv⟩ : ∃ lv, strV l=lv:=⟨_, rfl⟩
    have hlvl:lv.length=l.length:=by rw[←hlv]; simp [strV]
    rw[hlv] at hr2
    have hnew:strV (out++l)=els++lv:=by rw[←hels, ← hlv]; simp [strV]
    cases lv with
    | nil=>
      have hl0:l=[]:=List.length_eq_zero_iff.1 (by rw[←hlvl]; rfl)
      rw[if_pos hl0] at hI2 hmu
      cases els with
      | nil=>
        simp only[List.length_nil, cast0] at hel hr2
        (repeat' first|simp (disch:=omega) only[go_sem, List.length_map, outSl, outHp, List.length_nil]|refine pure_of _ (hr2) ?_|(apply spl<;>intro h<;>try simp (disch:=omega) only[go_sem, List.length_map, outSl, outHp, List.length_nil , h]))
        all_goals first | omega | skip
        refine ⟨(out++l, no+1, k+1), ?_, hI2, hmu⟩
        dsimp only
        rw[hnew]
        rfl
      | cons z zs=>
        simp only[List.length_cons] at hel hr2
        (repeat' first|simp (disch:=omega) only[go_sem, List.length_map, outSl, outHp, List.length_cons, List.length_nil]|refine pure_of _ (hr2) ?_|(apply spl<;>intro h<;>try simp (disch:=omega) only[go_sem, List.length_map, outSl, outHp, List.length_cons, List.length_nil , h]))
        all_goals first | omega | skip
        refine ⟨(out++l, no+1, k+1), ?_, hI2, hmu⟩
        dsimp only
        rw[hnew]
        first | rfl | (rw[List.append_nil]; rfl)
    | cons w ws=>
      have hl0:l≠[]:=fun e=>by rw[e] at hlvl; cases hlvl
      rw[if_neg hl0] at hI2 hmu
      simp only[List.length_cons] at hlvl
      cases els with
      | nil=>
        simp only[List.length_nil, cast0] at hel hr2
        (repeat' first|simp (disch:=omega) only[go_sem, List.length_map, outSl, outHp, List.length_nil, List.length_cons]|refine pure_of _ (hr2) ?_|(apply spl<;>intro h<;>try simp (disch:=omega) only[go_sem, List.length_map, outSl, outHp, List.length_nil, List.length_cons , h]))
        all_goals first | omega | skip
        refine ⟨(out++l, 0, k+1), ?_, hI2, hmu⟩
        dsimp only
        rw[hnew]
        rfl
      | cons z zs=>
        simp only[List.length_cons] at hel hr2
        (repeat' first|simp (disch:=omega) only[go_sem, List.length_map, outSl, outHp, List.length_cons]|refine pure_of _ (hr2) ?_|(apply spl<;>intro h<;>try simp (disch:=omega) only[go_sem, List.length_map, outSl, outHp, List.length_cons , h]))
        all_goals first | omega | skip
        refine ⟨(out++l, 0, k+1), ?_, hI2, hmu⟩
        dsimp only
        rw[hnew]
        simp only[List.cons_append, outSl, outHp, List.length_append, List.length_cons]
        rw[show zs.length+(ws.length+1)+1=zs.length+1+(ws.length+1) by omega]
        rfl
  · have hd:=hI.done h1
    dsimp only at hd
    rw[hd, hels]
    cases els with
    | nil=>
      simp only[List.length_nil] at hel
      (repeat' first|simp (disch:=omega) only[go_sem, List.length_map, outSl, outHp, List.length_nil]|(apply spl<;>intro h<;>try simp (disch:=omega) only[go_sem, List.length_map, outSl, outHp, List.length_nil, h]))
      all_goals first | omega | skip
    | cons z zs=>
      simp only[List.length_cons] at hel
      (repeat' first|simp (disch:=omega) only[go_sem, List.length_map, outSl, outHp, List.length_cons, List.take_length]|(apply spl<;>intro h<;>try simp (disch:=omega) only[go_sem, List.length_map, outSl, outHp, List.length_cons, List.take_length, h]))
      all_goals first | omega | skip
end Ago
/- Heads of loops over a heap that is not told, with a slice that grows and boxes of one's own. -/
set_option maxRecDepth 100000
set_option maxHeartbeats 8000000
namespace Ago
open Go (IntKind)
theorem reach_skip {H:Heap} {base k r:Nat} {todo seen:List Nat} (h:r<base):reach H base (k+1) (r::todo) seen=reach H base k todo seen:=by
  rw[reach, if_pos h]
theorem reach_flat {H:Heap} {base k r n fam:Nat} {els:List AV} {ro:Bool} {todo seen:List Nat} (h:base≤r) (hs:r∉seen) (hb:H[r]?=some (.row n els ro true fam)):reach H base (k+1) (r::todo) seen=reach H base k todo (seen++[r]):=by
  rw[reach, if_neg (by omega), if_neg (by simpa using hs), hb]
  rfl
theorem reach_end {H:Heap} {base k:Nat} {seen:List Nat}:reach H base (k+1) [] seen=seen:=(rfl)
/-- Where the references of low values go. -/
theorem reach_lows {H:Heap} {base:Nat} : ∀ (low:List Nat) (k:Nat) (todo seen:List Nat), (∀ r, r∈low→r<base)→reach H base (k+low.length) (low++todo) seen=reach H base k todo seen
  | [], k, todo, seen, h=>rfl
  | r::low, k, todo, seen, h=>by
    rw[List.length_cons, ← Nat.add_assoc, List.cons_append, reach_skip (h r (by simp))]
    exact reach_lows low k todo seen fun x hx=>h x (by simp [hx])
/-- Slots with low references in front, a slice that grows, and boxes behind. -/
structure BoxS (low:List Nat) (nb:Nat) (S:AV→List Nat→List AV):Prop where
  ren : ∀ f a bs, bs.length=nb→(∀ r, r∈low→f r=some r)→(∀ b, b∈bs→∃ c, f b=some c)→(S a bs).map (AV.renN f 6)=S (AV.renN f 6 a) (bs.map fun b=>(f b).getD 0)
  refs : ∀ a bs, bs.length=nb→(S a bs).flatMap (AV.refsN 6)=low++(AV.refsN 6 a++bs)
theorem ren_at0 {m q:Nat} {ks:List Nat} (h:m≤q):renOf m (q::ks) q=some m:=by
  unfold renOf
  rw[if_neg (by omega)]
  simp [List.idxOf?, List.findIdx?, List.findIdx?.go]
theorem ren_at1 {m q r:Nat} {ks:List Nat} (h:m≤r) (hne:q≠r):renOf m (q::r::ks) r=some (m+1):=by
  unfold renOf
  rw[if_neg (by omega)]
  simp [List.idxOf?, List.findIdx?, List.findIdx?.go, hne]
theorem ren_at2 {m p q r:Nat} {ks:List Nat} (h:m≤r) (h1:p≠r) (h2:q≠r):renOf m (p::q::r::ks) r=some (m+2):=by
  unfold renOf
  rw[if_neg (by omega)]
  simp [List.idxOf?, List.findIdx?, List.findIdx?.go, h1, h2]
theorem fam_at0 {H:Heap} {m q fam:Nat} {ks:List Nat} (h:m≤fam) (hb:(H.getD q .gone).famOf=some fam):famRen H m (q::ks) fam=m:=by
  unfold famRen
  rw[if_neg (by omega)]
  simp only[List.findIdx, List.findIdx.go, hb, beq_self_eq_true, cond_true]
  rfl
theorem fam_at1 {H:Heap} {m q r fam:Nat} {ks:List Nat} (h:m≤fam) (h1:(H.getD q .gone).famOf≠some fam) (hb:(H.getD r .gone).famOf=some fam):famRen H m (q::r::ks) fam=m+1:=by
  unfold famRen
  rw[if_neg (by omega)]
  have:((H.getD q .gone).famOf == some fam)=false:=by simpa using h1
  simp only[List.findIdx, List.findIdx.go, hb, this, beq_self_eq_true, cond_true, cond_false]
theorem fam_at2 {H:Heap} {m p q r fam:Nat} {ks:List Nat} (h:m≤fam) (h0:(H.getD p .gone).famOf≠some fam) (h1:(H.getD q .gone).famOf≠some fam) (hb:(H.getD r .gone).famOf=some fam):famRen H m (p::q::r::ks) fam=m+2:=by
  unfold famRen
  rw[if_neg (by omega)]
  have t1:((H.getD p .gone).famOf == some fam)=false:=by simpa using h0
  have t2:((H.getD q .gone).famOf == some fam)=false:=by simpa using h1
  simp only[List.findIdx, List.findIdx.go, hb, t1, t2, beq_self_eq_true, cond_true, cond_false]
theorem getD_of {H:Heap} {q:Nat} {b:Blk} (h:H[q]?=some b):H.getD q .gone=b:=by
  rw[List.getD_eq_getElem?_getD, h]
  rfl
/-- One box; the slice is low. -/
theorem norm_b1 {low:List Nat} {S:AV→List Nat→List AV} (hS:BoxS low 1 S) {live:List Nat} {tm:List AV} {H E:Heap} {m rb p1 n1:Nat} {e1:List AV} {a:AV} (hm:m=H.length) (hlow : ∀ r, r∈low→r<m) (hll:low.length<100) (hC:Cl H) (hE : ∀ b, b∈E→b.roB=false)
    (hL:keepLive live 0 tm=S a [p1]) (ha:(AV.refsN 6 a=[]∨∃ r, AV.refsN 6 a=[r]∧r<m)) (hra : ∀ f:Nat→Option Nat, (∀ r, r<m→f r=some r)→AV.renN f 6 a=a) (h1:m≤p1) (hb1:(H++E)[p1]?=some (.row n1 e1 false true p1)) :
    St.norm live ⟨tm, H++E, m, rb⟩=⟨S a [m], H++[.row n1 e1 false true m], m, 0⟩:=by
  have hlw : ∀ r, r<m→renOf m [p1] r=some r:=fun r hr=>renOf_lowW _ hr
  refine norm_cl (ks:=[p1]) hm hC hE hL ?_ (fun r hr=>?_) ?_ ?_
  · rw[hS.refs _ _ rfl]
    obtain ⟨k, hk⟩ : ∃ k, 4000=(k+10)+low.length:=⟨4000-10-low.length, by omega⟩
    rw[hk, reach_lows low _ _ _ hlow]
    rcases ha with ha | ⟨r, ha, hr⟩
    · rw[ha, List.nil_append, reach_flat h1 (by simp) hb1]
      rfl
    · rw[ha, List.singleton_append, reach_skip hr, reach_flat h1 (by simp) hb1]
      rfl
  · rw[List.mem_singleton.1 hr, getD_of hb1]
    rfl
  · rw[hS.ren _ _ _ rfl (fun r hr=>hlw r (hlow r hr)) (fun b hb=>by rw[List.mem_singleton.1 hb]; exact ⟨_, ren_at0 h1⟩), hra _ hlw]
    simp [ren_at0 h1]
  · simp only[List.map_cons, List.map_nil, getD_of hb1, Blk.ren, if_true]
    rw[fam_at0 h1 (by rw[getD_of hb1]; rfl)]
/-- One box; the slice is one's own. -/
theorem norm_b1o {low:List Nat} {S:AV→List Nat→List AV} (hS:BoxS low 1 S) {live:List Nat} {tm:List AV} {H E:Heap} {m rb p1 n1 q n fam:Nat} {e1 es:List AV} (hm:m=H.length) (hlow : ∀ r, r∈low→r<m) (hll:low.length<100) (hC:Cl H) (hE : ∀ b, b∈E→b.roB=false)
    (hL:keepLive live 0 tm=S (.sref 1 q 0 n) [p1]) (hq:m≤q) (hbq:(H++E)[q]?=some (.row 1 es false true fam)) (h1:m≤p1) (hb1:(H++E)[p1]?=some (.row n1 e1 false true p1)) (hn:q≠p1) (hf:fam≠p1) :
    St.norm live ⟨tm, H++E, m, rb⟩=⟨S (.sref 1 m 0 n) [m+1], H++[.row 1 es false true (if fam<m then fam else m), .row n1 e1 false true (m+1)], m, 0⟩:=by
  have hlw : ∀ r, r<m→renOf m [q, p1] r=some r:=fun r hr=>renOf_lowW _ hr
  refine norm_cl (ks:=[q, p1]) hm hC hE hL ?_ (fun r hr=>?_) ?_ ?_
  · rw[hS.refs _ _ rfl]
    obtain ⟨k, hk⟩ : ∃ k, 4000=(k+10)+low.length:=⟨4000-10-low.length, by omega⟩
    rw[hk, reach_lows low _ _ _ hlow]
    show reach _ _ _ (q::[p1]) []=_
    rw[reach_flat hq (by simp) hbq, reach_flat h1 (by simp; omega) hb1]
    rfl
  · simp only[List.mem_cons, List.not_mem_nil, or_false] at hr
    rcases hr with rfl | rfl
    · rw[getD_of hbq]; rfl
    · rw[getD_of hb1]; rfl
  · rw[hS.ren _ _ _ rfl (fun r hr=>hlw r (hlow r hr)) (fun b hb=>by rw[List.mem_singleton.1 hb]; exact ⟨_, ren_at1 h1 hn⟩)]
    simp [AV.renN, ren_at0 hq, ren_at1 h1 hn]
  · simp only[List.map_cons, List.map_nil, getD_of hbq, getD_of hb1, Blk.ren, if_true]
    rw[fam_at1 h1 (by rw[getD_of hbq]; simpa [Blk.famOf] using hf) (by rw[getD_of hb1]; rfl)]
    congr 2
    split
    · rename_i h
      unfold famRen
      rw[if_pos h]
    · rw[fam_at0 (by omega) (by rw[getD_of hbq]; rfl)]
/-- Two boxes; the slice is low. -/
theorem norm_b2 {low:List Nat} {S:AV→List Nat→List AV} (hS:BoxS low 2 S) {live:List Nat} {tm:List AV} {H E:Heap} {m rb p1 n1 p2 n2:Nat} {e1 e2:List AV} {a:AV} (hm:m=H.length) (hlow : ∀ r, r∈low→r<m) (hll:low.length<100) (hC:Cl H) (hE : ∀ b, b∈E→b.roB=false)
    (hL:keepLive live 0 tm=S a [p1, p2]) (ha:(AV.refsN 6 a=[]∨∃ r, AV.refsN 6 a=[r]∧r<m)) (hra : ∀ f:Nat→Option Nat, (∀ r, r<m→f r=some r)→AV.renN f 6 a=a) (h1:m≤p1) (hb1:(H++E)[p1]?=some (.row n1 e1 false true p1)) (h2:m≤p2) (hb2:(H++E)[p2]?=some (.row n2 e2 false true p2)) (h12:p1≠p2) :
    St.norm live ⟨tm, H++E, m, rb⟩=⟨S a [m, m+1], H++[.row n1 e1 false true m, .row n2 e2 false true (m+1)], m, 0⟩:=by
  have hlw : ∀ r, r<m→renOf m [p1, p2] r=some r:=fun r hr=>renOf_lowW _ hr
  refine norm_cl (ks:=[p1, p2]) hm hC hE hL ?_ (fun r hr=>?_) ?_ ?_
  · rw[hS.refs _ _ rfl]
    obtain ⟨k, hk⟩ : ∃ k, 4000=(k+10)+low.length:=⟨4000-10-low.length, by omega⟩
    rw[hk, reach_lows low _ _ _ hlow]
    rcases ha with ha | ⟨r, ha, hr⟩
    · rw[ha, List.nil_append, reach_flat h1 (by simp) hb1, reach_flat h2 (by simp; omega) hb2]
      rfl
    · rw[ha, List.singleton_append, reach_skip hr, reach_flat h1 (by simp) hb1, reach_flat h2 (by simp; omega) hb2]
      rfl
  · simp only[List.mem_cons, List.not_mem_nil, or_false] at hr
    rcases hr with rfl | rfl
    · rw[getD_of hb1]; rfl
    · rw[getD_of hb2]; rfl
  · rw[hS.ren _ _ _ rfl (fun r hr=>hlw r (hlow r hr)) (fun b hb=>by
      simp only[List.mem_cons, List.not_mem_nil, or_false] at hb
      rcases hb with rfl | rfl
      · exact ⟨_, ren_at0 h1⟩
      · exact ⟨_, ren_at1 h2 h12⟩), hra _ hlw]
    simp [ren_at0 h1, ren_at1 h2 h12]
  · simp only[List.map_cons, List.map_nil, getD_of hb1, getD_of hb2, Blk.ren, if_true]
    rw[fam_at0 h1 (by rw[getD_of hb1]; rfl), fam_at1 h2 (by rw[getD_of hb1]; simpa [Blk.famOf] using h12) (by rw[getD_of hb2]; rfl)]
/-- Two boxes; the slice is one's own. -/
theorem norm_b2o {low:List Nat} {S:AV→List Nat→List AV} (hS:BoxS low 2 S) {live:List Nat} {tm:List AV} {H E:Heap} {m rb p1 n1 p2 n2 q n fam:Nat} {e1 e2 es:List AV} (hm:m=H.length) (hlow : ∀ r, r∈low→r<m) (hll:low.length<100) (hC:Cl H) (hE : ∀ b, b∈E→b.roB=false)
    (hL:keepLive live 0 tm=S (.sref 1 q 0 n) [p1, p2]) (hq:m≤q) (hbq:(H++E)[q]?=some (.row 1 es false true fam)) (h1:m≤p1) (hb1:(H++E)[p1]?=some (.row n1 e1 false true p1)) (h2:m≤p2) (hb2:(H++E)[p2]?=some (.row n2 e2 false true p2)) (h12:p1≠p2)
    (hn:q≠p1) (hn2:q≠p2) (hf:fam≠p1) (hf2:fam≠p2) :
    St.norm live ⟨tm, H++E, m, rb⟩=⟨S (.sref 1 m 0 n) [m+1, m+2], H++[.row 1 es false true (if fam<m then fam else m), .row n1 e1 false true (m+1), .row n2 e2 false true (m+2)], m, 0⟩:=by
  have hlw : ∀ r, r<m→renOf m [q, p1, p2] r=some r:=fun r hr=>renOf_lowW _ hr
  refine norm_cl (ks:=[q, p1, p2]) hm hC hE hL ?_ (fun r hr=>?_) ?_ ?_
  · rw[hS.refs _ _ rfl]
    obtain ⟨k, hk⟩ : ∃ k, 4000=(k+10)+low.length:=⟨4000-10-low.length, by omega⟩
    rw[hk, reach_lows low _ _ _ hlow]
    show reach _ _ _ (q::[p1, p2]) []=_
    rw[reach_flat hq (by simp) hbq, reach_flat h1 (by simp; omega) hb1, reach_flat h2 (by simp; omega) hb2]
    rfl
  · simp only[List.mem_cons, List.not_mem_nil, or_false] at hr
    rcases hr with rfl | rfl | rfl
    · rw[getD_of hbq]; rfl
    · rw[getD_of hb1]; rfl
    · rw[getD_of hb2]; rfl
  · rw[hS.ren _ _ _ rfl (fun r hr=>hlw r (hlow r hr)) (fun b hb=>by
      simp only[List.mem_cons, List.not_mem_nil, or_false] at hb
      rcases hb with rfl | rfl
      · exact ⟨_, ren_at1 h1 hn⟩
      · exact ⟨_, ren_at2 h2 hn2 h12⟩)]
    simp [AV.renN, ren_at0 hq, ren_at1 h1 hn, ren_at2 h2 hn2 h12]
  · simp only[List.map_cons, List.map_nil, getD_of hbq, getD_of hb1, getD_of hb2, Blk.ren, if_true]
    rw[fam_at1 h1 (by rw[getD_of hbq]; simpa [Blk.famOf] using hf) (by rw[getD_of hb1]; rfl), fam_at2 h2 (by rw[getD_of hbq]; simpa [Blk.famOf] using hf2) (by rw[getD_of hb1]; simpa [Blk.famOf] using h12) (by rw[getD_of hb2]; rfl)]
    congr 2
    split
    · rename_i h
      unfold famRen
      rw[if_pos h]
    · rw[fam_at0 (by omega) (by rw[getD_of hbq]; rfl)]
end Ago
/- automaton.collect: the strings of a length, gathered in a slice that grows. -/
set_option maxRecDepth 100000
set_option maxHeartbeats 16000000
namespace Ago
open Go (IntKind)
theorem mapM_bytes : ∀ l:List UInt8, omap byteOf (encB l)=some l
  | []=>rfl
  | c::l=>by
    have ih:=mapM_bytes l
    show omap byteOf (.int .u8 c.toNat::encB l)=_
    unfold omap
    have:byteOf (.int .u8 (c.toNat:Int))=some c:=by simp [byteOf]
    rw[this, ih]
theorem collect0 (m:List Sta) {H:Heap} {so out:AV} {sos:List UInt8} {els:List AV} {fs fo:Nat} (W:Nat) (q N:Int) (hC:Cl H) (hF:Fb H) (hs:Hold H so (encB sos) fs) (hH:Hold H out els fo) (hsl:sos.length<2^26) (hel:els.length<2^26) :
    RunOf CB 352 [encMa m, .sref 1 W 0 (sos.length+1), .int .i64 q, so, out, .int .i64 N] H (nextV H out els [.str sos]) (nextH H els [.str sos] fo):=by
  have hme:encMa m = .agg [.tsl 2 (m.map encSta)]:=rfl
  have hbl:(encB sos).length=sos.length:=by simp [encB]
  have htk:(encB sos).take sos.length=encB sos:=List.take_of_length_le (by omega)
  have hby:=mapM_bytes sos
  rw[hme]
  rcases hs.two with ⟨s1, s2, s3⟩ | ⟨rs, s1, s2, s3, s4, s5⟩
  · have hs0:sos=[]:=List.length_eq_zero_iff.1 (by rw[←hbl, s2]; rfl)
    rw[s1]
    have sx1:=hs0
    rcases hH.two with ⟨e1, e2, e3⟩ | ⟨r, e1, e2, e3, e4, e5⟩
    · rw[e1]
      have v1:nextV H (.snil 1) els [.str sos] = .sref 1 H.length 0 1:=by simp [nextV, e2]
      have v2:nextH H els [.str sos] fo=H++[.row 1 [.str sos] false true (if H.length+2<H.length then H.length+2 else H.length)]:=by
        rw[if_neg (by omega)]
        simp [nextH, e2, e3]
      rw[v1, v2]
      refine runC_of ac352 rfl ?_
      (repeat' first|simp (disch:=omega) only[go_sem, ac352, enter, List.length_map, getP0, getP1, getL, List.length_append, List.append_assoc, Nat.add_assoc, List.length_nil, cast0, sx1, hbl, htk, hby]|(apply spl<;>intro h<;>try simp (disch:=omega) only[go_sem, ac352, enter, List.length_map, getP0, getP1, getL, List.length_append, List.append_assoc, Nat.add_assoc, List.length_nil, cast0, sx1, hbl, htk, hby, h]))
      all_goals first | omega | skip
      exact post_hold1 (q:=H.length+2) (.inr rfl) rfl rfl hC (ro_cons rfl (ro_cons rfl (ro_cons rfl ro_nil))) (by omega) (by simp)
    · rw[e1]
      have v1:nextV H (.sref 1 r 0 els.length) els [.str sos] = .sref 1 H.length 0 (els.length+1):=by simp [nextV]
      have v2:nextH H els [.str sos] fo=H++[.row 1 (els++[.str sos]) false true (if fo<H.length then fo else H.length)]:=by
        rw[if_pos e3]
        simp [nextH]
      have hs2:=strike_two e3 e5
      rw[v1, v2]
      refine runC_of ac352 rfl ?_
      (repeat' first|simp (disch:=omega) only[go_sem, ac352, enter, List.length_map, getP0, getP1, getL, List.length_append, List.append_assoc, Nat.add_assoc, List.length_nil, cast0, e2, hs2, sx1, hbl, htk, hby]|(apply spl<;>intro h<;>try simp (disch:=omega) only[go_sem, ac352, enter, List.length_map, getP0, getP1, getL, List.length_append, List.append_assoc, Nat.add_assoc, List.length_nil, cast0, e2, hs2, sx1, hbl, htk, hby, h]))
      all_goals first | omega | skip
      exact post_hold1 (q:=H.length+2) (.inr rfl) rfl rfl hC (ro_cons rfl (ro_cons rfl (ro_cons rfl ro_nil))) (by omega) (by simp)
  · rw[s1]
    rw[hbl]
    have sx1:=s2
    rcases hH.two with ⟨e1, e2, e3⟩ | ⟨r, e1, e2, e3, e4, e5⟩
    · rw[e1]
      have v1:nextV H (.snil 1) els [.str sos] = .sref 1 H.length 0 1:=by simp [nextV, e2]
      have v2:nextH H els [.str sos] fo=H++[.row 1 [.str sos] false true (if H.length+2<H.length then H.length+2 else H.length)]:=by
        rw[if_neg (by omega)]
        simp [nextH, e2, e3]
      rw[v1, v2]
      refine runC_of ac352 rfl ?_
      (repeat' first|simp (disch:=omega) only[go_sem, ac352, enter, List.length_map, getP0, getP1, getL, List.length_append, List.append_assoc, Nat.add_assoc, List.length_nil, cast0, sx1, hbl, htk, hby]|(apply spl<;>intro h<;>try simp (disch:=omega) only[go_sem, ac352, enter, List.length_map, getP0, getP1, getL, List.length_append, List.append_assoc, Nat.add_assoc, List.length_nil, cast0, sx1, hbl, htk, hby, h]))
      all_goals first | omega | skip
      exact post_hold1 (q:=H.length+2) (.inr rfl) rfl rfl hC (ro_cons rfl (ro_cons rfl (ro_cons rfl ro_nil))) (by omega) (by simp)
    · rw[e1]
      have v1:nextV H (.sref 1 r 0 els.length) els [.str sos] = .sref 1 H.length 0 (els.length+1):=by simp [nextV]
      have v2:nextH H els [.str sos] fo=H++[.row 1 (els++[.str sos]) false true (if fo<H.length then fo else H.length)]:=by
        rw[if_pos e3]
        simp [nextH]
      have hs2:=strike_two e3 e5
      rw[v1, v2]
      refine runC_of ac352 rfl ?_
      (repeat' first|simp (disch:=omega) only[go_sem, ac352, enter, List.length_map, getP0, getP1, getL, List.length_append, List.append_assoc, Nat.add_assoc, List.length_nil, cast0, e2, hs2, sx1, hbl, htk, hby]|(apply spl<;>intro h<;>try simp (disch:=omega) only[go_sem, ac352, enter, List.length_map, getP0, getP1, getL, List.length_append, List.append_assoc, Nat.add_assoc, List.length_nil, cast0, e2, hs2, sx1, hbl, htk, hby, h]))
      all_goals first | omega | skip
      exact post_hold1 (q:=H.length+2) (.inr rfl) rfl rfl hC (ro_cons rfl (ro_cons rfl (ro_cons rfl ro_nil))) (by omega) (by simp)
/-- The rows are there. -/
def WitH (m:List Sta) (H:Heap) (W L:Nat):Prop:=∃ wv fl fam, H[W]?=some (.row 1 wv false fl fam)∧wv.length=L∧∀ i, i<L→∃ r fam', wv[i]?=some (.sref 1 r 0 m.length)∧H[r]?=some (.row 1 ((rowM m i).map .bool) false true fam')
theorem WitH.app {m:List Sta} {H:Heap} {W L:Nat} (h:WitH m H W L) (E:Heap):WitH m (H++E) W L:=by
  obtain ⟨wv, fl, fam, h1, h2, h3⟩:=h
  refine ⟨wv, fl, fam, ?_, h2, fun i hi=>?_⟩
  · rw[List.getElem?_append_left (List.getElem?_eq_some_iff.1 h1).1]
    exact h1
  · obtain ⟨r, fam', k1, k2⟩:=h3 i hi
    refine ⟨r, fam', k1, ?_⟩
    rw[List.getElem?_append_left (List.getElem?_eq_some_iff.1 k2).1]
    exact k2
theorem nextH_eq (H:Heap) (els m:List AV) (fam:Nat) : ∃ E, nextH H els m fam=H++E:=by
  unfold nextH
  split
  · exact ⟨[], by simp⟩
  · exact ⟨_, rfl⟩
theorem WitH.next {m:List Sta} {H:Heap} {W L:Nat} (h:WitH m H W L) (els mm:List AV) (fam:Nat):WitH m (nextH H els mm fam) W L:=by
  obtain ⟨E, he⟩:=nextH_eq H els mm fam
  rw[he]
  exact h.app E
theorem Hold.strike {H:Heap} {r k:Nat} {els:List AV} {fam:Nat} (h:Hold H (.sref 1 r 0 k) els fam):H.strike r fam (els.length+1)=some H:=by
  rcases h.two with ⟨h1, _⟩ | ⟨r', h1, h2, h3, h4, h5⟩
  · cases h1
  · cases h1
    exact strike_stay fun j n e ro fl hj=>by
      rcases h5 j n e ro fl hj with rfl | h
      · exact .inl rfl
      · exact .inr (by omega)
theorem flatMap_same {α β:Type} {f g:α→List β} : ∀ {l:List α}, (∀ x, x∈l→f x=g x)→l.flatMap f=l.flatMap g
  | [], _=>rfl
  | x::l, h=>by
    rw[List.flatMap_cons, List.flatMap_cons, h x (by simp), flatMap_same fun y hy=>h y (by simp [hy])]
/-- The strings that an arc adds. -/
def arcS (m:List Sta) (n:Nat) (sos:List UInt8) (a:Arc) (j:Nat):List (List UInt8):=(List.range j).flatMap fun i=>(allS m n a.next.toNat).map fun w=>sos++UInt8.ofNat (a.lo.toNat+i)::w
def wid (a:Arc):Nat:=a.hi.toNat+1-a.lo.toNat
def arcF (m:List Sta) (n:Nat) (sos:List UInt8) (l:List Arc):List (List UInt8):=l.flatMap fun a=>arcS m n sos a (wid a)
theorem arcS_succ (m:List Sta) (n:Nat) (sos:List UInt8) (a:Arc) (j:Nat):arcS m n sos a (j+1)=arcS m n sos a j++(allS m n a.next.toNat).map fun w=>sos++UInt8.ofNat (a.lo.toNat+j)::w:=by
  unfold arcS
  rw[List.range_succ, List.flatMap_append]
  simp
theorem arcF_snoc {m:List Sta} {n:Nat} {sos:List UInt8} {l:List Arc} {k:Nat} {a:Arc} (h:l[k]?=some a):arcF m n sos (l.take (k+1))=arcF m n sos (l.take k)++arcS m n sos a (wid a):=by
  unfold arcF
  rw[List.take_add_one, h, List.flatMap_append]
  simp
theorem arcF_range {m:List Sta} {n:Nat} {S:Int} (sos:List UInt8) (f:Nat→Nat) : ∀ (l:List Arc) (lo:Int), arcsOk S lo l=true→0≤lo→(∀ (b:Nat) (a:Arc), a∈l→a.lo≤b→(b:Int)≤a.hi→f b=a.next.toNat) →
    arcF m n sos l=(List.range' lo.toNat (256-lo.toNat)).flatMap fun b=>(allS m n (f b)).map fun w=>sos++UInt8.ofNat b::w
  | [], lo, h, h0, hf=>by
    rw[arcsOk_nil] at h
    have:lo=256:=by simpa using h
    subst this
    rfl
  | a::l, lo, h, h0, hf=>by
    rw[arcsOk_cons] at h
    simp only[Bool.and_eq_true, decide_eq_true_eq] at h
    obtain ⟨⟨⟨⟨⟨k1, k2⟩, k3⟩, k4⟩, k5⟩, k6⟩:=h
    have ih:=arcF_range (m:=m) (n:=n) sos f l (a.hi+1) k6 (by omega) fun b c hc h1 h2=>hf b c (by simp [hc]) h1 h2
    have hsp:List.range' lo.toNat (256-lo.toNat)=List.range' lo.toNat (wid a)++List.range' (a.hi+1).toNat (256-(a.hi+1).toNat):=by
      have e1:(a.hi+1).toNat=lo.toNat+wid a:=by unfold wid; omega
      rw[e1, List.range'_append_1]
      congr 1
      unfold wid
      omega
    show arcS m n sos a (wid a)++arcF m n sos l=_
    rw[ih, hsp, List.flatMap_append]
    congr 1
    unfold arcS
    rw[List.range'_eq_map_range, List.flatMap_map]
    refine flatMap_same fun i hi=>?_
    have hi2:=List.mem_range.1 hi
    have e2:lo.toNat=a.lo.toNat:=by rw[k1]
    unfold wid at hi2
    rw[hf (lo.toNat+i) a (by simp) (by omega) (by omega), e2]
theorem arcF_all {m:List Sta} (hv:validM m=true) {n q:Nat} {x:Sta} (hx:m[q]?=some x) (sos:List UInt8):arcF m n sos x.arcs=(allS m (n+1) q).map (sos ++ ·):=by
  have hok:=valid_arcs hv (List.mem_of_getElem? hx)
  rw[arcF_range sos (nxtM m q) x.arcs 0 hok (Int.le_refl _) fun b a ha h1 h2=>by
    obtain ⟨j1, j2, j3, j4, j5, j6⟩:=arcs_hit x.arcs 0 hok (Int.le_refl _) a ha
    rw[nxt_at hx, j6 b h1 h2]]
  show _=List.map _ (List.flatMap _ _)
  rw[List.map_flatMap, List.range_eq_range']
  refine flatMap_same fun b hb=>?_
  rw[List.map_map]
  rfl
end Ago
/- automaton.collect, the whole. -/
set_option maxRecDepth 100000
set_option maxHeartbeats 32000000
namespace Ago
open Go (IntKind)
def mBox (m:List Sta) (p:Nat):Blk:=.row 1 [encMa m] false true p
def aBox (a:Arc) (p:Nat):Blk:=.row 3 [encArc a] false true p
/-- What the slice is in the end, ahead of a head. -/
structure EndV (H Hp:Heap) (out a:AV) (els mm m1:List AV) (fo p:Nat):Prop where
  same:m1=[]→a=nextV H out els mm
  more:m1≠[]→∃ q f, a = .sref 1 q 0 (els++mm++m1).length∧Hp[q]?=some (.row 1 (els++mm++m1) false true f)∧p+2≤q∧f≠p∧f≠p+1∧(if f<H.length then f else H.length)=fo
theorem low_refs {H:Heap} {out:AV} {els:List AV} {fo:Nat} (hH:Hold H out els fo):AV.refsN 6 out=[]∨∃ r, AV.refsN 6 out=[r]∧r<H.length:=by
  rcases hH.two with ⟨h1, _⟩ | ⟨r, h1, _, _, h4, _⟩
  · rw[h1]
    exact .inl rfl
  · rw[h1]
    exact .inr ⟨r, rfl, h4⟩
theorem ro_app {A B:Heap} (h1 : ∀ b, b∈A→b.roB=false) (h2 : ∀ b, b∈B→b.roB=false) : ∀ b, b∈A++B→b.roB=false:=fun b hb=>by
  rcases List.mem_append.1 hb with hb | hb
  · exact h1 b hb
  · exact h2 b hb
/-- The head of the loop over arcs. -/
theorem step_one {low:List Nat} {S:AV→List Nat→List AV} (hS:BoxS low 1 S) {live:List Nat} {tm:List AV} {H T:Heap} {out a:AV} {els mm m1:List AV} {m:List Sta} {fo p rb:Nat} (hH:Hold H out els fo) (hC:Cl H) (hlow : ∀ r, r∈low→r<H.length) (hll:low.length<100)
    (hp:p=(nextH H els mm fo).length) (hT : ∀ b, b∈T→b.roB=false) (hL:keepLive live 0 tm=S a [p]) (hE:EndV H (nextH H els mm fo++mBox m p::T) out a els mm m1 fo p) :
    St.norm live ⟨tm, nextH H els mm fo++mBox m p::T, H.length, rb⟩=⟨S (nextV H out els (mm++m1)) [(nextH H els (mm++m1) fo).length], nextH H els (mm++m1) fo++[mBox m (nextH H els (mm++m1) fo).length], H.length, 0⟩:=by
  subst hp
  have hfo:=hH.fam_if
  by_cases hm:mm=[]
  · subst hm
    have n1:nextH H els [] fo=H:=by simp [nextH]
    rw[n1] at hL hE ⊢
    by_cases h1:m1=[]
    · subst h1
      have ha:=hE.same rfl
      simp only[List.append_nil]
      rw[n1, ← ha]
      rw[show nextV H out els []=out by simp [nextV]] at ha
      subst ha
      exact norm_b1 hS rfl hlow hll hC (ro_cons rfl hT) hL (low_refs hH) hH.low.2 (Nat.le_refl _) (by simp [mBox])
    · obtain ⟨q, f, k1, k2, k3, k4, k5, k6⟩:=hE.more h1
      rw[List.append_nil] at k1 k2
      rw[k1] at hL
      have:=norm_b1o (rb:=rb) hS rfl hlow hll hC (ro_cons rfl hT) hL (by omega) k2 (Nat.le_refl _) (n1:=1) (e1:=[encMa m]) (by simp [mBox]) (by omega) k4
      rw[this, k6]
      simp [nextV, nextH, h1, mBox]
  · have n1:nextH H els mm fo=H++[.row 1 (els++mm) false true fo]:=by simp [nextH, hm]
    have n2:(nextH H els mm fo).length=H.length+1:=by rw[n1]; simp
    have hmm:mm++m1≠[]:=by simp [hm]
    rw[n2] at hL hE ⊢
    rw[n1] at hE ⊢
    rw[List.append_assoc] at hE ⊢
    have hle:=hH.fam_le
    by_cases h1:m1=[]
    · subst h1
      have ha:=hE.same rfl
      rw[show nextV H out els mm = .sref 1 H.length 0 (els++mm).length by simp [nextV, hm]] at ha
      rw[ha] at hL
      have:=norm_b1o (rb:=rb) hS rfl hlow hll hC (ro_cons rfl (ro_cons rfl hT)) (E:=[.row 1 (els++mm) false true fo]++mBox m (H.length+1)::T) hL (Nat.le_refl _) (fam:=fo) (es:=els++mm) (by simp) (p1:=H.length+1) (by omega) (n1:=1) (e1:=[encMa m]) (by simp [mBox]) (by omega) (by omega)
      rw[this, hfo]
      simp [nextV, nextH, hm, mBox]
    · obtain ⟨q, f, k1, k2, k3, k4, k5, k6⟩:=hE.more h1
      rw[k1] at hL
      have:=norm_b1o (rb:=rb) hS rfl hlow hll hC (ro_cons rfl (ro_cons rfl hT)) (E:=[.row 1 (els++mm) false true fo]++mBox m (H.length+1)::T) hL (by omega) k2 (p1:=H.length+1) (by omega) (n1:=1) (e1:=[encMa m]) (by simp [mBox]) (by omega) k4
      rw[this, k6]
      simp [nextV, nextH, hm, mBox]
/-- The head of the loop over bytes. -/
theorem step_two {low:List Nat} {S:AV→List Nat→List AV} (hS:BoxS low 2 S) {live:List Nat} {tm:List AV} {H T:Heap} {out a:AV} {els mm m1:List AV} {m:List Sta} {ar:Arc} {fo p rb:Nat} (hH:Hold H out els fo) (hC:Cl H) (hlow : ∀ r, r∈low→r<H.length) (hll:low.length<100)
    (hp:p=(nextH H els mm fo).length) (hT : ∀ b, b∈T→b.roB=false) (hL:keepLive live 0 tm=S a [p, p+1]) (hE:EndV H (nextH H els mm fo++mBox m p::aBox ar (p+1)::T) out a els mm m1 fo p) :
    St.norm live ⟨tm, nextH H els mm fo++mBox m p::aBox ar (p+1)::T, H.length, rb⟩=⟨S (nextV H out els (mm++m1)) [(nextH H els (mm++m1) fo).length, (nextH H els (mm++m1) fo).length+1], nextH H els (mm++m1) fo++[mBox m (nextH H els (mm++m1) fo).length, aBox ar ((nextH H els (mm++m1) fo).length+1)], H.length, 0⟩:=by
  subst hp
  have hfo:=hH.fam_if
  by_cases hm:mm=[]
  · subst hm
    have n1:nextH H els [] fo=H:=by simp [nextH]
    rw[n1] at hL hE ⊢
    by_cases h1:m1=[]
    · subst h1
      have ha:=hE.same rfl
      simp only[List.append_nil]
      rw[n1, ← ha]
      rw[show nextV H out els []=out by simp [nextV]] at ha
      subst ha
      exact norm_b2 hS rfl hlow hll hC (ro_cons rfl (ro_cons rfl hT)) hL (low_refs hH) hH.low.2 (Nat.le_refl _) (by simp [mBox]) (by omega) (by simp [aBox]) (by omega)
    · obtain ⟨q, f, k1, k2, k3, k4, k5, k6⟩:=hE.more h1
      rw[List.append_nil] at k1 k2
      rw[k1] at hL
      have:=norm_b2o (rb:=rb) hS rfl hlow hll hC (ro_cons rfl (ro_cons rfl hT)) hL (by omega) k2 (Nat.le_refl _) (n1:=1) (e1:=[encMa m]) (by simp [mBox]) (by omega) (n2:=3) (e2:=[encArc ar]) (by simp [aBox]) (by omega) (by omega) (by omega) k4 k5
      rw[this, k6]
      simp [nextV, nextH, h1, mBox, aBox]
  · have n1:nextH H els mm fo=H++[.row 1 (els++mm) false true fo]:=by simp [nextH, hm]
    have n2:(nextH H els mm fo).length=H.length+1:=by rw[n1]; simp
    have hmm:mm++m1≠[]:=by simp [hm]
    rw[n2] at hL hE ⊢
    rw[n1] at hE ⊢
    rw[List.append_assoc] at hE ⊢
    have hle:=hH.fam_le
    by_cases h1:m1=[]
    · subst h1
      have ha:=hE.same rfl
      rw[show nextV H out els mm = .sref 1 H.length 0 (els++mm).length by simp [nextV, hm]] at ha
      rw[ha] at hL
      have:=norm_b2o (rb:=rb) hS rfl hlow hll hC (ro_cons rfl (ro_cons rfl (ro_cons rfl hT))) (E:=[.row 1 (els++mm) false true fo]++mBox m (H.length+1)::aBox ar (H.length+1+1)::T) hL (Nat.le_refl _) (fam:=fo) (es:=els++mm) (by simp) (p1:=H.length+1) (by omega) (n1:=1) (e1:=[encMa m]) (by simp [mBox]) (p2:=H.length+1+1) (by omega) (n2:=3) (e2:=[encArc ar]) (by rw[List.getElem?_append_right (by omega), show H.length+1+1-H.length=2 by omega]; rfl) (by omega) (by omega) (by omega) (by omega) (by omega)
      rw[this, hfo]
      simp [nextV, nextH, hm, mBox, aBox]
    · obtain ⟨q, f, k1, k2, k3, k4, k5, k6⟩:=hE.more h1
      rw[k1] at hL
      have:=norm_b2o (rb:=rb) hS rfl hlow hll hC (ro_cons rfl (ro_cons rfl (ro_cons rfl hT))) (E:=[.row 1 (els++mm) false true fo]++mBox m (H.length+1)::aBox ar (H.length+1+1)::T) hL (by omega) k2 (p1:=H.length+1) (by omega) (n1:=1) (e1:=[encMa m]) (by simp [mBox]) (p2:=H.length+1+1) (by omega) (n2:=3) (e2:=[encArc ar]) (by rw[List.getElem?_append_right (by omega), show H.length+1+1-H.length=2 by omega]; rfl) (by omega) (by omega) (by omega) k4 k5
      rw[this, k6]
      simp [nextV, nextH, hm, mBox, aBox]
end Ago
/- automaton.collect: what a call of itself is given. -/
set_option maxRecDepth 100000
set_option maxHeartbeats 4000000
namespace Ago
open Go (IntKind)
theorem Hold.add {H:Heap} {l:AV} {els:List AV} {fam:Nat} (h:Hold H l els fam) (n:Nat) (e:List AV) (ro fl:Bool) (f:Nat) (hf:els=[]∨f≠fam) : ∃ fam2, Hold (H++[.row n e ro fl f]) l els fam2∧(els≠[]→fam2=fam)∧(els=[]→fam2=H.length+1):=by
  cases h with
  | nil=>exact ⟨H.length+1, by have:=Hold.nil (H:=H++[.row n e ro fl f]); simpa using this, fun h=>(h rfl).elim, fun _=>rfl⟩
  | row h1 h2 h3 h4=>
    have hr:=(List.getElem?_eq_some_iff.1 h2).1
    have hf:f≠fam:=by
      rcases hf with h | h
      · exact (h1 h).elim
      · exact h
    refine ⟨fam, .row h1 (by rw[List.getElem?_append_left hr]; exact h2) (by simp; omega) (fun j n' e' ro' fl' hj=>?_), fun _=>rfl, fun h=>(h1 h).elim⟩
    rcases getA hj with hj2 | ⟨_, hj2⟩
    · exact h4 _ _ _ _ _ hj2
    · cases hj2
      exact (hf rfl).elim
theorem Hold.nil_fam {H:Heap} {l:AV} {els:List AV} {fam:Nat} (h:Hold H l els fam) (he:els=[]):fam=H.length:=h.fam_nil he
/-- What a row of the slice that grows does to another slice. -/
theorem Hold.addNext {H:Heap} {l:AV} {es:List AV} {fam:Nat} (h:Hold H l es fam) (els mm:List AV) (f:Nat) (hf:es=[]∨f≠fam) : ∃ fam2, Hold (nextH H els mm f) l es fam2∧(es≠[]→fam2=fam)∧(es=[]→fam2=(nextH H els mm f).length):=by
  unfold nextH
  split
  · exact ⟨fam, h, fun _=>rfl, fun he=>h.fam_nil he⟩
  · obtain ⟨fam2, k1, k2, k3⟩:=h.add 1 (els++mm) false true f hf
    exact ⟨fam2, k1, k2, fun he=>by rw[k3 he]; simp⟩
theorem strike_box2 {H:Heap} (hF:Fb H) (n1 n2 k:Nat) (e1 e2:List AV):strikeGo (H.length+1) (H.length+1) k (H++[.row n1 e1 false true H.length, .row n2 e2 false true (H.length+1)]) 0=some (H++[.row n1 e1 false true H.length, .row n2 e2 false true (H.length+1)]):=strike_stay fun j n' e ro' fl' hj=>by
  rw[show H++[Blk.row n1 e1 false true H.length, Blk.row n2 e2 false true (H.length+1)]=(H++[Blk.row n1 e1 false true H.length])++[Blk.row n2 e2 false true (H.length+1)] by simp] at hj
  rcases getA hj with hj2 | ⟨h, _⟩
  · rcases getA hj2 with hj3 | ⟨_, h⟩
    · have:=hF _ _ _ _ _ _ hj3
      omega
    · have:=congrArg Blk.famOf h
      simp [Blk.famOf] at this
  · exact .inl (by simpa using h)
theorem post_box {res:List ResV} {H T:Heap} {l:AV} {els m:List AV} {fam b rb:Nat} {tm:List AV} {e:Ex} (he:e = .normal∨e = .ret) (hH:Hold H l els fam) (hC:Cl H) (hT : ∀ b, b∈T→b.roB=false) (hres:results res ⟨tm, nextH H els m fam++T, b, rb⟩=some (nextV H l els m)) :
    PostC H.length res (nextV H l els m) (nextH H els m fam) e ⟨tm, nextH H els m fam++T, b, rb⟩:=by
  by_cases hm:m=[]
  · subst hm
    simp only[nextV, nextH, if_true] at hres ⊢
    exact post_hold0 (res:=res) (E:=T) (tm:=tm) (b:=b) (rb:=rb) he hres rfl hC hT hH.low.1 hH.low.2
  · simp only[nextV, nextH, if_neg hm, List.append_assoc] at hres ⊢
    have:=post_hold1 (res:=res) (els:=els++m) (fam:=fam) (E:=[.row 1 (els++m) false true fam]++T) (tm:=tm) (b:=b) (rb:=rb) he hres rfl hC (ro_cons rfl hT) (Nat.le_refl _) (by simp)
    rw[hH.fam_if] at this
    exact this
theorem arcS_more (m:List Sta) (n:Nat) (sos:List UInt8) (a:Arc) (j:Nat) : ∀ c, ∃ B, arcS m n sos a (j+c)=arcS m n sos a j++B
  | 0=>⟨[], by simp⟩
  | c+1=>by
    obtain ⟨B, hB⟩:=arcS_more m n sos a j c
    refine ⟨B++(allS m n a.next.toNat).map fun w=>sos++UInt8.ofNat (a.lo.toNat+(j+c))::w, ?_⟩
    rw[←Nat.add_assoc, arcS_succ, hB, List.append_assoc]
/-- The heap of a call of itself. -/
theorem rec_facts {m:List Sta} {H:Heap} {so out:AV} {sos:List UInt8} {els mj:List AV} {fs fo W L:Nat} (a:Arc) (x:AV) (hC:Cl H) (hF:Fb H) (hS:Hold H so (encB sos) fs) (hH:Hold H out els fo) (hap:els=[]∨sos=[]∨fo≠fs) (hW:WitH m H W L) {H1 HX H2:Heap} {l1:AV} {p fs4:Nat}
    (hH1:nextH H els mj fo=H1) (hl1:nextV H out els mj=l1) (hp:H1.length=p) (hf4:fs4=if sos=[] then p+3 else fs) (hX:HX=H1++[mBox m p, aBox a (p+1), .row 1 [x] false true (p+2)]) (h2:H2=HX++[.row 1 (encB sos++[x]) false true fs4]) :
    Hold HX so (encB sos) fs4∧Hold H1 l1 (els++mj) fo∧Fb H1∧∃ so2 fo5, so2 = .sref 1 (p+3) 0 (sos.length+1)∧Cl H2∧Fb H2∧Hold H2 so2 (encB sos++[x]) fs4∧Hold H2 l1 (els++mj) fo5∧WitH m H2 W L∧(els++mj=[]∨fo5≠fs4)∧(els++mj≠[]→fo5=fo)∧(els++mj=[]→fo5=H2.length):=by
  have hbn:encB sos=[]↔sos=[]:=by simp [encB]
  have hfol:=hH.fam_le
  obtain ⟨N1, F1⟩:=hH.next hF mj
  rw[ite_self] at N1
  have C1:=Cl.next hC hH mj
  have W1:=hW.next els mj fo
  have hlen:H.length≤H1.length:=by
    obtain ⟨E, hE⟩:=nextH_eq H els mj fo
    rw[←hH1, hE]
    simp
  have hlen2:mj≠[]→H1.length=H.length+1:=fun h=>by rw[←hH1]; simp [nextH, h]
  have hfsl:sos≠[]→fs<H.length:=fun h=>by
    rcases hS.two with ⟨_, h2, _⟩ | ⟨_, _, _, h3, _⟩
    · exact (h (hbn.1 h2)).elim
    · exact h3
  have hap1:encB sos=[]∨fo≠fs:=by
    rcases hap with h | h | h
    · by_cases hs0:sos=[]
      · exact .inl (hbn.2 hs0)
      · have:=hH.nil_fam h
        have:=hfsl hs0
        exact .inr (by omega)
    · exact .inl (hbn.2 h)
    · exact .inr h
  obtain ⟨fs1, So1, so3, so4⟩:=hS.addNext els mj fo hap1
  rw[hH1] at N1 F1 C1 W1 So1 so4
  rw[hl1] at N1
  have hfs1:encB sos=[]∨∀ c, H1.length≤c→c≠fs1:=by
    by_cases hs0:sos=[]
    · exact .inl (hbn.2 hs0)
    · right
      intro c hc
      have h1:=so3 (fun e=>hs0 (hbn.1 e))
      have h2:=hfsl hs0
      omega
  obtain ⟨fs2, So2, so5, so6⟩:=So1.add 1 [encMa m] false true H1.length (by
    rcases hfs1 with h | h
    · exact .inl h
    · exact .inr (h _ (Nat.le_refl _)))
  obtain ⟨fs3, So3, so7, so8⟩:=So2.add 3 [encArc a] false true (H1.length+1) (by
    rcases hfs1 with h | h
    · exact .inl h
    · by_cases hs0:encB sos=[]
      · exact .inl hs0
      · right
        rw[so5 hs0]
        exact h _ (by omega))
  obtain ⟨fs5, So4, so9, so10⟩:=So3.add 1 [x] false true (H1.length+2) (by
    rcases hfs1 with h | h
    · exact .inl h
    · by_cases hs0:encB sos=[]
      · exact .inl hs0
      · right
        rw[so7 hs0, so5 hs0]
        exact h _ (by omega))
  have hXe:H1++[Blk.row 1 [encMa m] false true H1.length]++[Blk.row 3 [encArc a] false true (H1.length+1)]++[Blk.row 1 [x] false true (H1.length+2)]=HX:=by
    rw[hX, ← hp]
    simp [mBox, aBox]
  have hfs5:fs5=fs4:=by
    rw[hf4]
    by_cases hs0:sos=[]
    · rw[if_pos hs0, so10 (hbn.2 hs0), ← hp]
      simp
    · have h0:encB sos≠[]:=fun e=>hs0 (hbn.1 e)
      rw[if_neg hs0, so9 h0, so7 h0, so5 h0, so3 h0]
  have hXl:HX.length=p+3:=by rw[hX, ← hp]; simp
  have No:=N1
  obtain ⟨g1, No1, o1, o2⟩:=No.add 1 [encMa m] false true H1.length (by
    by_cases he:els++mj=[]
    · exact .inl he
    · right
      by_cases hm0:mj=[]
      · have:els≠[]:=fun e=>he (by rw[e, hm0]; rfl)
        rcases hH.two with ⟨_, h2, _⟩ | ⟨_, _, _, h3, _⟩
        · exact (this h2).elim
        · omega
      · have:=hlen2 hm0
        omega)
  obtain ⟨g2, No2, o3, o4⟩:=No1.add 3 [encArc a] false true (H1.length+1) (by
    by_cases he:els++mj=[]
    · exact .inl he
    · right
      rw[o1 he]
      omega)
  obtain ⟨g3, No3, o5, o6⟩:=No2.add 1 [x] false true (H1.length+2) (by
    by_cases he:els++mj=[]
    · exact .inl he
    · right
      rw[o3 he, o1 he]
      omega)
  have hne:els++mj=[]∨fs4≠g3:=by
    by_cases he:els++mj=[]
    · exact .inl he
    · right
      rw[o5 he, o3 he, o1 he, hf4]
      by_cases hs0:sos=[]
      · rw[if_pos hs0]
        omega
      · rw[if_neg hs0]
        rcases hap1 with h | h
        · exact (hs0 (hbn.1 h)).elim
        · exact fun e=>h e.symm
  obtain ⟨g4, No4, o7, o8⟩:=No3.add 1 (encB sos++[x]) false true fs4 hne
  have F4:=((F1.push (n:=1) (els:=[encMa m]) (ro:=false) (fl:=true) (Nat.le_refl _)).push (n:=3) (els:=[encArc a]) (ro:=false) (fl:=true) (f:=H1.length+1) (by simp)).push (n:=1) (els:=[x]) (ro:=false) (fl:=true) (f:=H1.length+2) (by simp)
  have C4:=((C1.push 1 [encMa m] false H1.length (Nat.le_refl _)).push 3 [encArc a] false (H1.length+1) (by simp)).push 1 [x] false (H1.length+2) (by simp)
  rw[hXe] at F4 C4 So4 No4
  rw[hfs5] at So4
  obtain ⟨So5, F5⟩:=So4.next F4 [x]
  rw[ite_self] at So5
  have hn2:nextH HX (encB sos) [x] fs4=H2:=by rw[h2]; simp [nextH]
  rw[hn2] at So5 F5
  have C5:=Cl.next C4 So4 [x]
  rw[hn2] at C5
  rw[←h2] at No4
  refine ⟨So4, N1, F1, _, g4, ?_, C5, F5, So5, No4, ?_, ?_, fun he=>by rw[o7 he, o5 he, o3 he, o1 he], fun he=>by rw[o8 he, h2]; simp [←hXe]⟩
  · have hbl:(encB sos).length=sos.length:=by simp [encB]
    simp [nextV, hXl, hbl]
  · rw[h2, hX, List.append_assoc]
    exact W1.app _
  · by_cases he:els++mj=[]
    · exact .inl he
    · right
      rcases hne with h | h
      · exact (he h).elim
      · rw[o7 he]
        exact fun e=>h e.symm
end Ago
/- Regions that draw many orders. -/
namespace Ago
open Go (IntKind)
section
variable {R:Nat→List AV→Heap→AV→Heap→Prop} {PR:Nat→List AV→AV→Prop}
/-- The other orders end in the same state. -/
def drawAll (R:Nat→List AV→Heap→AV→Heap→Prop) (PR:Nat→List AV→AV→Prop) (s s':St):List (List AOper)→Prop
  | []=>True
  | l::ls=>(@withStI s ⟨awOps R PR l fun t=>t=s'⟩)∧drawAll R PR s s' ls
theorem drawAll_mem {s s':St} {x:List AOper} : ∀ {ls:List (List AOper)}, drawAll R PR s s' ls→x∈ls→awOps R PR x (fun t=>t=s') s
  | [], _, hx=>by cases hx
  | y::ls, ⟨k1, k2⟩, hx=>by
    unfold withStI at k1
    rcases List.mem_cons.1 hx with rfl | hx
    · exact k1
    · exact drawAll_mem k2 hx
theorem drawE {k:Nat} {l:List AOper} {ls:List (List AOper)} {Q:Ex→St→Prop} {s:St} (h : ∃ s', (@withStI (s.keep k) ⟨awOps R PR l fun t=>t=s'⟩)∧drawAll R PR (s.keep k) s' ls∧@withStI { s' with rb:=0 } ⟨Q .normal⟩):aw R PR (.draw k (l::ls)) Q s:=by
  obtain ⟨s', h1, h2, h3⟩:=h
  unfold withStI at h1 h3
  refine ⟨s', by simp, fun x hx=>?_, h3⟩
  rcases List.mem_cons.1 hx with rfl | hx
  · exact h1
  · exact drawAll_mem h2 hx
end
theorem getP2 {H l:Heap} {a b c:Blk} {m:Nat} (h:m=H.length+2):(H++a::b::c::l)[m]?=some c:=by
  subst h
  rw[List.getElem?_append_right (by omega), Nat.add_sub_cancel_left]
  rfl
theorem setP2 {H l:Heap} {a b c x:Blk} {m:Nat} (h:m=H.length+2):(H++a::b::c::l).set m x=H++a::b::x::l:=by
  subst h
  rw[List.set_append_right _ _ (by omega), Nat.add_sub_cancel_left]
  rfl
/-- The head behind a call of itself. -/
theorem step_call {low:List Nat} {S:AV→List Nat→List AV} (hS:BoxS low 2 S) {live:List Nat} {tm:List AV} {H:Heap} {out l1:AV} {els mm m1:List AV} {m:List Sta} {ar:Arc} {fo fo5 p rb:Nat} {r1 r2:Blk} (hH:Hold H out els fo) (hC:Cl H) (hlow : ∀ r, r∈low→r<H.length) (hll:low.length<100)
    (hp:p=(nextH H els mm fo).length) (h1:r1.roB=false) (h2:r2.roB=false) (hl1:nextV H out els mm=l1) (hf1:els++mm≠[]→fo5=fo) (hf2:els++mm=[]→fo5=p+4) (hL:keepLive live 0 tm=S (nextV (nextH H els mm fo++[mBox m p, aBox ar (p+1), r1, r2]) l1 (els++mm) m1) [p, p+1]) :
    St.norm live ⟨tm, nextH (nextH H els mm fo++[mBox m p, aBox ar (p+1), r1, r2]) (els++mm) m1 fo5, H.length, rb⟩=⟨S (nextV H out els (mm++m1)) [(nextH H els (mm++m1) fo).length, (nextH H els (mm++m1) fo).length+1], nextH H els (mm++m1) fo++[mBox m (nextH H els (mm++m1) fo).length, aBox ar ((nextH H els (mm++m1) fo).length+1)], H.length, 0⟩:=by
  have hle:=hH.fam_le
  have hlen:H.length≤p:=by
    obtain ⟨E, hE⟩:=nextH_eq H els mm fo
    rw[hp, hE]
    simp
  have hlen2:mm≠[]→p=H.length+1:=fun h=>by rw[hp]; simp [nextH, h]
  by_cases hm:m1=[]
  · subst hm
    have e1:nextV (nextH H els mm fo++[mBox m p, aBox ar (p+1), r1, r2]) l1 (els++mm) []=l1:=by simp [nextV]
    have e2:nextH (nextH H els mm fo++[mBox m p, aBox ar (p+1), r1, r2]) (els++mm) [] fo5=nextH H els mm fo++mBox m p::aBox ar (p+1)::[r1, r2]:=by simp [nextH]
    rw[e1] at hL
    rw[e2]
    exact step_two hS hH hC hlow hll hp (ro_cons h1 (ro_cons h2 ro_nil)) hL ⟨fun _=>hl1.symm, fun h=>(h rfl).elim⟩
  · have e1:nextV (nextH H els mm fo++[mBox m p, aBox ar (p+1), r1, r2]) l1 (els++mm) m1 = .sref 1 (p+4) 0 (els++mm++m1).length:=by
      simp [nextV, hm, hp]
    have e2:nextH (nextH H els mm fo++[mBox m p, aBox ar (p+1), r1, r2]) (els++mm) m1 fo5=nextH H els mm fo++mBox m p::aBox ar (p+1)::[r1, r2, .row 1 (els++mm++m1) false true fo5]:=by
      rw[nextH, if_neg hm, List.append_assoc]
      rfl
    rw[e1] at hL
    rw[e2]
    refine step_two hS hH hC hlow hll hp (ro_cons h1 (ro_cons h2 (ro_cons rfl ro_nil))) hL ⟨fun h=>(hm h).elim, fun _=>⟨p+4, fo5, rfl, ?_, by omega, ?_, ?_, ?_⟩⟩
    · rw[List.getElem?_append_right (by omega), hp, Nat.add_sub_cancel_left]
      rfl
    · by_cases he:els++mm=[]
      · rw[hf2 he]
        omega
      · rw[hf1 he]
        by_cases hmm:mm=[]
        · have:els≠[]:=fun e=>he (by rw[e, hmm]; rfl)
          rcases hH.two with ⟨_, h2, _⟩ | ⟨_, _, _, h3, _⟩
          · exact (this h2).elim
          · omega
        · have:=hlen2 hmm
          omega
    · by_cases he:els++mm=[]
      · rw[hf2 he]
        omega
      · rw[hf1 he]
        omega
    · by_cases he:els++mm=[]
      · have h0:=(List.append_eq_nil_iff.1 he).1
        rw[hf2 he, hH.nil_fam h0, if_neg (by omega)]
      · rw[hf1 he]
        exact hH.fam_if
end Ago
/- automaton.collect: slots, what is to be shown. -/
set_option maxRecDepth 100000
set_option maxHeartbeats 64000000
namespace Ago
open Go (IntKind)
def S1 (x:Sta) (W L:Nat) (so:AV) (N:Nat) (n1:Int) (k:Nat) (a:AV) (bs:List Nat):List AV:=slots 79 [(1, .sref 1 W 0 L), (3, so), (4, a), (5, .int .i64 N), (6, .ptr 1 (bs.getD 0 0) 0 0), (13, .int .i64 n1), (35, .tsl 3 (x.arcs.map encArc)), (36, .int .i64 x.arcs.length), (37, .int .i64 k)]
def S2 (x:Sta) (W L:Nat) (so:AV) (N:Nat) (n1:Int) (k:Nat) (b:Int) (a:AV) (bs:List Nat):List AV:=slots 79 [(1, .sref 1 W 0 L), (3, so), (4, a), (5, .int .i64 N), (6, .ptr 1 (bs.getD 0 0) 0 0), (13, .int .i64 n1), (15, .ptr 3 (bs.getD 1 0) 0 0), (16, .int .i64 b), (35, .tsl 3 (x.arcs.map encArc)), (36, .int .i64 x.arcs.length), (37, .int .i64 k)]
theorem so_ren {H:Heap} {so:AV} {els:List AV} {fs:Nat} (hs:Hold H so els fs) {f:Nat→Option Nat} (hf : ∀ r, r∈AV.refsN 6 so→f r=some r):AV.renN f 6 so=so:=by
  rcases hs.two with ⟨h1, _⟩ | ⟨r, h1, _⟩
  · rw[h1]
    rfl
  · rw[h1] at hf ⊢
    have:f r=some r:=hf r (by simp [AV.refsN])
    simp only[AV.renN]
    rw[this]
theorem S1_box {x:Sta} {W L:Nat} {so:AV} {N k:Nat} {n1:Int} {H:Heap} {els:List AV} {fs:Nat} (hs:Hold H so els fs):BoxS (W::AV.refsN 6 so) 1 (S1 x W L so N n1 k) where
  ren f a bs hb hlow hbs:=by
    match bs, hb with
    | [b], _=>
      obtain ⟨c, hc⟩:=hbs b (by simp)
      have hW:f W=some W:=hlow W (by simp)
      have e1:AV.renN f 6 (.sref 1 W 0 L) = .sref 1 W 0 L:=by simp only[AV.renN]; rw[hW]
      have e2:=so_ren hs (f:=f) fun r hr=>hlow r (by simp [hr])
      have e3:AV.renN f 6 (.ptr 1 b 0 0) = .ptr 1 ((f b).getD 0) 0 0:=by simp only[AV.renN]; rw[hc]; rfl
      show slots 79 [(1, AV.renN f 6 (.sref 1 W 0 L)), (3, AV.renN f 6 so), (4, AV.renN f 6 a), (5, .int .i64 N), (6, AV.renN f 6 (.ptr 1 b 0 0)), (13, .int .i64 n1), (35, .tsl 3 (x.arcs.map encArc)), (36, .int .i64 x.arcs.length), (37, .int .i64 k)]=_
      rw[e1, e2, e3]
      rfl
  refs a bs hb:=by
    match bs, hb with
    | [b], _=>rfl
theorem S2_box {x:Sta} {W L:Nat} {so:AV} {N k:Nat} {n1 b0:Int} {H:Heap} {els:List AV} {fs:Nat} (hs:Hold H so els fs):BoxS (W::AV.refsN 6 so) 2 (S2 x W L so N n1 k b0) where
  ren f a bs hb hlow hbs:=by
    match bs, hb with
    | [b, d], _=>
      obtain ⟨c, hc⟩:=hbs b (by simp)
      obtain ⟨e, he⟩:=hbs d (by simp)
      have hW:f W=some W:=hlow W (by simp)
      have e1:AV.renN f 6 (.sref 1 W 0 L) = .sref 1 W 0 L:=by simp only[AV.renN]; rw[hW]
      have e2:=so_ren hs (f:=f) fun r hr=>hlow r (by simp [hr])
      have e3:AV.renN f 6 (.ptr 1 b 0 0) = .ptr 1 ((f b).getD 0) 0 0:=by simp only[AV.renN]; rw[hc]; rfl
      have e4:AV.renN f 6 (.ptr 3 d 0 0) = .ptr 3 ((f d).getD 0) 0 0:=by simp only[AV.renN]; rw[he]; rfl
      show slots 79 [(1, AV.renN f 6 (.sref 1 W 0 L)), (3, AV.renN f 6 so), (4, AV.renN f 6 a), (5, .int .i64 N), (6, AV.renN f 6 (.ptr 1 b 0 0)), (13, .int .i64 n1), (15, AV.renN f 6 (.ptr 3 d 0 0)), (16, .int .i64 b0), (35, .tsl 3 (x.arcs.map encArc)), (36, .int .i64 x.arcs.length), (37, .int .i64 k)]=_
      rw[e1, e2, e3, e4]
      rfl
  refs a bs hb:=by
    match bs, hb with
    | [b, d], _=>rfl
theorem Hold.two_mk {H:Heap} {l:AV} {els:List AV} {fam:Nat} (h:Hold H l els fam):l = .snil 1∧els.length=0∨∃ r, l = .sref 1 r 0 els.length∧H[r]?=some (Blk.row 1 els false true fam)∧r<H.length:=by
  rcases h.two with ⟨h1, h2, _⟩ | ⟨r, h1, h2, _, h4, _⟩
  · exact .inl ⟨h1, by rw[h2]; rfl⟩
  · exact .inr ⟨r, h1, h2, h4⟩
theorem encB_snoc (sos:List UInt8) (b:Nat) (hb:b<256):encB (sos++[UInt8.ofNat b])=encB sos++[.int .u8 (b:Int)]:=by
  unfold encB
  rw[List.map_append]
  simp [UInt8.toNat_ofNat_of_lt' (show b<UInt8.size by exact hb)]
theorem Hold.ne {H:Heap} {r k:Nat} {els:List AV} {fam:Nat} (h:Hold H (.sref 1 r 0 k) els fam):els≠[]:=by
  cases h
  assumption
def ColIH (m:List Sta) (n:Nat):Prop:=∀ (q:Nat) (H:Heap) (so out:AV) (sos:List UInt8) (els:List AV) (fs fo W N:Nat), q<m.length→Cl H→Fb H→Hold H so (encB sos) fs→Hold H out els fo→(els=[]∨sos=[]∨fo≠fs) →
    WitH m H W (n+sos.length+1)→(rowM m n).getD q false=true→els.length<N→N≤2^20→n+sos.length<2^25 →
    RunOf CB 352 [encMa m, .sref 1 W 0 (n+sos.length+1), .int .i64 q, so, out, .int .i64 N] H (nextV H out els (strV (((allS m n q).map (sos ++ ·)).take (N-els.length)))) (nextH H els (strV (((allS m n q).map (sos ++ ·)).take (N-els.length))) fo)
end Ago
