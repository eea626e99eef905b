/- Calls of known arguments,also those that work on a heap: what was carried out once is taken from a table. -/
import Derived.Test.YtnifalngeimpnaaGreatDoorMachG
import Derived.Test.YtnifalngeimpnaaGreatDoorMachH
set_option linter.unusedSimpArgs false
set_option linter.unusedVariables false
namespace Ago
abbrev RunEnt:=Nat × List AV × Heap × AV × Heap
def orRT:List RunEnt→Nat→List AV→Heap→Option (AV × Heap)
 | [],_,_,_=>none
 | x::l,f,xs,H=>match Nat.beq f x.1 with
  | true=>match sameL (AV.same 100) xs x.2.1 with
   | true=>match sameL Blk.same H x.2.2.1 with
    | true=>some x.2.2.2
    | false=>orRT l f xs H
   | false=>orRT l f xs H
  | false=>orRT l f xs H
inductive OrROk (C:Ctx):List RunEnt→Prop
 | nil:OrROk C []
 | cons {f:Nat} {xs:List AV} {H:Heap} {v:AV} {H':Heap} {l:List RunEnt}:BS C (.run f xs H v H')→OrROk C l→OrROk C ((f,xs,H,v,H')::l)
theorem OrROk.get {C:Ctx} {l:List RunEnt} (h:OrROk C l) : ∀ f xs H v H',orRT l f xs H=some (v,H')→BS C (.run f xs H v H'):=by
 induction h with
 | nil=>
  intro f xs H v H' h
  cases h
 | cons hp _ ih=>
  intro f xs H v H' h
  unfold orRT at h
  split at h
  ·rename_i h1
   split at h
   ·rename_i h2
    split at h
    ·rename_i h3
     cases h
     rw[Nat.eq_of_beq_eq_true h1,sameL_eq (AV.same_eq 100) _ _ h2,sameL_eq Blk.same_eq _ _ h3]
     exact hp
    ·exact ih _ _ _ _ _ h
   ·exact ih _ _ _ _ _ h
  ·exact ih _ _ _ _ _ h
section
variable (code:Nat→Option AFn) (clR clP:Nat→Option (Nat × Nat)) (orR:Nat→List AV→Heap→Option (AV × Heap)) (orP:Nat→List AV→Option AV)
def evX:Nat→(Nat→List AV→Heap→Option (AV × Heap)) × (Nat→List AV→Option AV)
 | 0=>(fun _ _ _=>none,fun _ _=>none)
 | n+1=>
  (fun f args H=>
   match orR f args H with
   | some r=>some r
   | none=>
    match code f with
    | some fn=>(match enterE fn args H (evCE (evX n).1 (evX n).2 n fn.body) with
     | some (e,t)=>(match okEx e with
      | true=>(match resultsE fn.res t with
       | some v=>(match tidy H.length v t.heap with | ⟨tm,h,_,_⟩=>some (tm.getD 0 .dead,h))
       | none=>none)
      | false=>none)
     | none=>none)
    | none=>(match clR f,args with
     | some p,[x]=>xAppend p.1 p.2 (H++[.gone]) [.snil p.1,x]
     | _,_=>none),
  fun f ts=>
   match orP f ts with
   | some v=>some v
   | none=>
    match code f with
    | some fn=>(match enterE fn ts [] (evCE (evX n).1 (evX n).2 n fn.body) with
     | some (e,t)=>(match okEx e with
      | true=>(match resultsE fn.res t with
       | some u=>frz t.heap 6 u
       | none=>none)
      | false=>none)
     | none=>none)
    | none=>(match clP f,ts with
     | some p,[.tsl n l]=>if n=p.1∧l.length≤lim∧l.length * p.2≤2^40 then some (.tsl p.1 l) else none
     | _,_=>none))
end
theorem evX_sound {C:Ctx} (code:Nat→Option AFn) (clR clP:Nat→Option (Nat × Nat)) (hF:Fits C code clR clP) (orR:Nat→List AV→Heap→Option (AV × Heap)) (horR : ∀ f a H v H',orR f a H=some (v,H')→BS C (.run f a H v H')) (orP:Nat→List AV→Option AV) (hor : ∀ f ts v,orP f ts=some v→PRun C f ts v) : ∀ (n:Nat),(∀ f a H v H',(evX code clR clP orR orP n).1 f a H=some (v,H')→BS C (.run f a H v H'))∧∀ f ts v,(evX code clR clP orR orP n).2 f ts=some v→BS C (.prun f ts v)
 | 0=>⟨fun f a H v H' (h:none=some (v,H'))=>by (cases h),fun f ts v (h:none=some v)=>by (cases h)⟩
 | n+1=>by
  obtain ⟨ih1,ih2⟩:=evX_sound code clR clP hF orR horR orP hor n
  refine ⟨fun f a H v H' h=>?_,fun f ts v h=>?_⟩
  ·simp only[evX] at h
   split at h
   ·rename_i r hr
    cases h
    exact horR _ _ _ _ _ hr
   ·split at h
    ·rename_i fn hf
     split at h
     ·rename_i e t hc
      split at h
      ·rename_i he
       split at h
       ·rename_i u hu
        cases h
        obtain ⟨e0,g0,g1⟩:=enterE_is fn a H (evCE (evX code clR clP orR orP n).1 (evX code clR clP orR orP n).2 n fn.body)
        rw[g1] at hc
        obtain ⟨s1,h1,h2⟩:=evCE_sound ih1 ih2 _ _ _ _ _ _ g0 hc
        rw[←resultsE_is h2] at hu
        have:=BS.run (hF.code _ _ hf) h1 (okEx_or he) hu
        rw[h2.heap] at this
        exact this
       ·cases h
      ·cases h
     ·cases h
    ·split at h
     ·rename_i p x hp _
      exact .prim (hF.prim _ _ _ _ _ _ hp h)
     ·cases h
  ·simp only[evX] at h
   split at h
   ·rename_i u hu
    cases h
    exact hor f ts _ hu
   ·split at h
    ·rename_i fn hf
     split at h
     ·rename_i e t hc
      split at h
      ·rename_i he
       split at h
       ·rename_i u hu
        obtain ⟨e0,g0,g1⟩:=enterE_is fn ts [] (evCE (evX code clR clP orR orP n).1 (evX code clR clP orR orP n).2 n fn.body)
        rw[g1] at hc
        obtain ⟨s1,h1,h2⟩:=evCE_sound ih1 ih2 _ _ _ _ _ _ g0 hc
        rw[←resultsE_is h2] at hu
        exact .prun (hF.code _ _ hf) h1 (okEx_or he) hu (by rw[h2.heap]; exact h)
       ·cases h
      ·cases h
     ·cases h
    ·split at h
     ·rename_i p m l hp _
      split at h
      ·rename_i hc
       obtain ⟨rfl,h2,h3⟩:=hc
       cases h
       exact .pprim (hF.pprim _ _ _ hp h2 h3)
      ·cases h
     ·cases h
def isItR (o:Option (AV × Heap)) (v:AV) (H:Heap):Bool:=match o with
 | some u=>match AV.same 100 u.1 v with
  | true=>sameL Blk.same u.2 H
  | false=>false
 | none=>false
theorem isItR_eq {o:Option (AV × Heap)} {v:AV} {H:Heap} (h:isItR o v H=true):o=some (v,H):=by
 unfold isItR at h
 split at h
 ·rename_i u
  split at h
  ·rename_i h1
   obtain ⟨a,b⟩:=u
   simp only at h h1
   rw[AV.same_eq _ _ _ h1,sameL_eq Blk.same_eq _ _ h]
  ·cases h
 ·cases h
section
variable {C:Ctx} {pp:Nat→Option (List AV→Option AV)} {code:Nat→Option AFn} {clR clP:Nat→Option (Nat × Nat)}
theorem orF_ok {l:List (Nat × List AV × AV)} (hl:OrOk (funCtx C pp) l) : ∀ f ts v,orF pp l f ts=some v→PRun (funCtx C pp) f ts v:=fun f ts v h=>by
 unfold orF at h
 split at h
 ·exact fun_run (by assumption) h
 ·exact hl.get _ _ _ h
theorem prun_tabX (hF:Fits (funCtx C pp) code clR clP) {l:List (Nat × List AV × AV)} (hl:OrOk (funCtx C pp) l) {r:List RunEnt} (hr:OrROk (funCtx C pp) r) (n:Nat) {f:Nat} {ts:List AV} {v:AV}
  (h:isIt ((evX code clR clP (orRT r) (orF pp l) n).2 f ts) v=true):PRun (funCtx C pp) f ts v:=
 (evX_sound code clR clP hF (orRT r) hr.get (orF pp l) (orF_ok hl) n).2 f ts v (isIt_eq h)
theorem run_tabX (hF:Fits (funCtx C pp) code clR clP) {l:List (Nat × List AV × AV)} (hl:OrOk (funCtx C pp) l) {r:List RunEnt} (hr:OrROk (funCtx C pp) r) (n:Nat) {f:Nat} {xs:List AV} {H:Heap} {v:AV} {H':Heap}
  (h:isItR ((evX code clR clP (orRT r) (orF pp l) n).1 f xs H) v H'=true):BS (funCtx C pp) (.run f xs H v H'):=
 (evX_sound code clR clP hF (orRT r) hr.get (orF pp l) (orF_ok hl) n).1 f xs H v H' (isItR_eq h)
end
end Ago
