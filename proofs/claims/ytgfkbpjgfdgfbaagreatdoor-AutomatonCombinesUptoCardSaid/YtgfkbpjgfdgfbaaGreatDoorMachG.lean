/- The abstract machine as a program for the kernel: slots as a list of what was written last, so that what was just written is found at once. -/
import Derived.Test.YtgfkbpjgfdgfbaaGreatDoorMachF
import Derived.KernelRfl
set_option linter.unusedSimpArgs false
set_option linter.unusedVariables false
namespace Ago

theorem bltI {a b:Nat}:Nat.blt a b=true↔a<b:=by rw[Nat.blt_eq]
theorem bleI {a b:Nat}:Nat.ble a b=true↔a≤b:=by rw[Nat.ble_eq]
/-! ### To work out only what is new -/
def spK {α β:Type}:List α→(List α→β)→β
  | [], k=>k []
  | x::l, k=>spK l fun l=>k (x::l)
theorem spK_eq {α β:Type} : ∀ (l:List α) (k:List α→β), spK l k=k l
  | [], k=>rfl
  | x::l, k=>by rw[spK, spK_eq l]
def avL {β:Type} (v:AV) (k:AV→β):β:=
  match v with
  | .int t i=>intK i fun i=>k (.int t i)
  | .bool b=>boolK b fun b=>k (.bool b)
  | .sref a b c d=>natK b fun b=>natK c fun c=>natK d fun d=>k (.sref a b c d)
  | .ptr a b c d=>natK b fun b=>natK c fun c=>natK d fun d=>k (.ptr a b c d)
  | .agg l=>spK l fun l=>k (.agg l)
  | .tup l=>spK l fun l=>k (.tup l)
  | .tptr l a=>natK a fun a=>k (.tptr l a)
  | .mref a=>natK a fun a=>k (.mref a)
  | .dead=>k .dead
  | .str s=>k (.str s)
  | .nilp=>k .nilp
  | .nilf=>k .nilf
  | .nili=>k .nili
  | .nilm=>k .nilm
  | .snil a=>k (.snil a)
  | .tsl a l=>k (.tsl a l)
  | .iref a=>k (.iref a)
  | .fn a l=>k (.fn a l)
  | .ifc a u=>k (.ifc a u)
theorem avL_eq {β:Type} (v:AV) (k:AV→β):avL v k=k v:=by
  cases v<;>simp [avL, intK_eq, boolK_eq, natK_eq, spK_eq]
/-- .. what was renamed. -/
def avR {β:Type}:Nat→AV→(AV→β)→β
  | 0, x, k=>k x
  | n+1, x, k=>
    match x with
    | .sref a b c d=>natK b fun b=>k (.sref a b c d)
    | .ptr a b c d=>natK b fun b=>k (.ptr a b c d)
    | .mref a=>natK a fun a=>k (.mref a)
    | .iref a=>natK a fun a=>k (.iref a)
    | .agg l=>listK (avR n) l fun l=>k (.agg l)
    | .tup l=>listK (avR n) l fun l=>k (.tup l)
    | .fn a l=>listK (avR n) l fun l=>k (.fn a l)
    | .ifc a u=>avR n u fun u=>k (.ifc a u)
    | .int t i=>k (.int t i)
    | .bool b=>k (.bool b)
    | .tptr l a=>k (.tptr l a)
    | .dead=>k .dead
    | .str s=>k (.str s)
    | .nilp=>k .nilp
    | .nilf=>k .nilf
    | .nili=>k .nili
    | .nilm=>k .nilm
    | .snil a=>k (.snil a)
    | .tsl a l=>k (.tsl a l)
theorem avR_eq {β:Type} : ∀ (n:Nat) (x:AV) (k:AV→β), avR n x k=k x
  | 0, _, _=>rfl
  | n+1, x, k=>by
    have ih:=avR_eq (β:=β) n
    cases x<;>simp [avR, natK_eq, listK_eq ih, ih]
def blkW {β:Type} (b:Blk) (k:Blk→β):β:=
  match b with
  | .gone=>k .gone
  | .resv=>k .resv
  | .row n els ro fl fam=>boolK ro fun ro=>boolK fl fun fl=>natK fam fun fam=>k (.row n els ro fl fam)
  | .map es=>k (.map es)
  | .iter s p=>k (.iter s p)
theorem blkW_eq {β:Type} (b:Blk) (k:Blk→β):blkW b k=k b:=by
  cases b<;>simp [blkW, boolK_eq, natK_eq]
def heapW {β:Type}:Heap→(Heap→β)→β:=listK blkW
theorem heapW_eq {β:Type} (H:Heap) (k:Heap→β):heapW H k=k H:=listK_eq blkW_eq H k
def lightP:POp→Bool
  | .move=>true
  | .pick=>true
  | .ext _=>true
  | .field _ _ _=>true
  | .faddr _=>true
  | .iaddrS _=>true
  | _=>false
def lightR:ROp→Bool
  | .load _=>true
  | _=>false
def valK {β:Type} (b:Bool) (v:AV) (k:AV→β):β:=
  match b with
  | true=>avL v k
  | false=>avK 3 v k
theorem valK_eq {β:Type} (b:Bool) (v:AV) (k:AV→β):valK b v k=k v:=by
  cases b<;>simp [valK, avL_eq, avK_eq]
/-- Nothing in it is renamed. -/
def AV.calm:Nat→AV→Bool
  | 0, _=>false
  | n+1, x=>
    match x with
    | .sref _ _ _ _=>false
    | .ptr _ _ _ _=>false
    | .mref _=>false
    | .iref _=>false
    | .agg l=>l.all (AV.calm n)
    | .tup l=>l.all (AV.calm n)
    | .fn _ l=>l.all (AV.calm n)
    | .ifc _ u=>AV.calm n u
    | _=>true
theorem map_calm {f:AV→AV} {c:AV→Bool} (h : ∀ x, c x=true→f x=x) : ∀ (l:List AV), l.all c=true→l.map f=l
  | [], _=>rfl
  | x::l, hl=>by
    simp only[List.all_cons, Bool.and_eq_true] at hl
    rw[List.map_cons, h x hl.1, map_calm h l hl.2]
theorem AV.calm_ren {f:Nat→Option Nat} : ∀ (n:Nat) (x:AV), AV.calm n x=true→AV.renN f n x=x
  | 0, _, h=>by cases h
  | n+1, x, h=>by
    have ih:=AV.calm_ren (f:=f) n
    cases x<;>simp only[AV.calm, Bool.false_eq_true] at h<;>first | rfl | (simp only[AV.renN, map_calm ih _ h]) | (simp only[AV.renN, ih _ h])
def vW {β:Type} (v:AV) (k:AV→β):β:=
  match v with
  | .sref a b c d=>k (.sref a b c d)
  | .ptr a b c d=>k (.ptr a b c d)
  | .mref a=>k (.mref a)
  | .iref a=>k (.iref a)
  | .agg l=>k (.agg l)
  | .tup l=>k (.tup l)
  | .fn a l=>k (.fn a l)
  | .ifc a u=>k (.ifc a u)
  | .int t i=>k (.int t i)
  | .bool b=>k (.bool b)
  | .tptr l a=>k (.tptr l a)
  | .dead=>k .dead
  | .str s=>k (.str s)
  | .nilp=>k .nilp
  | .nilf=>k .nilf
  | .nili=>k .nili
  | .nilm=>k .nilm
  | .snil a=>k (.snil a)
  | .tsl a l=>k (.tsl a l)
theorem vW_eq {β:Type} (v:AV) (k:AV→β):vW v k=k v:=by cases v<;>rfl
def renK {β:Type} (f:Nat→Option Nat) (v:AV) (k:AV→β):β:=
  vW v fun v=>match AV.calm 6 v with
    | true=>k v
    | false=>avR 6 (AV.renN f 6 v) k
theorem renK_eq {β:Type} (f:Nat→Option Nat) (v:AV) (k:AV→β):renK f v k=k (AV.renN f 6 v):=by
  unfold renK
  rw[vW_eq]
  split
  · rename_i h
    rw[AV.calm_ren 6 v h]
  · rw[avR_eq]
def renLK {β:Type} (f:Nat→Option Nat):List AV→(List AV→β)→β
  | [], k=>k []
  | x::l, k=>renK f x fun x=>renLK f l fun l=>k (x::l)
theorem renLK_eq {β:Type} (f:Nat→Option Nat) : ∀ (l:List AV) (k:List AV→β), renLK f l k=k (l.map (AV.renN f 6))
  | [], k=>rfl
  | x::l, k=>by rw[renLK, renK_eq, renLK_eq f l]; rfl
def renMK {β:Type} (f:Nat→Option Nat):List (AV × AV)→(List (AV × AV)→β)→β
  | [], k=>k []
  | x::l, k=>renK f x.1 fun a=>renK f x.2 fun b=>renMK f l fun l=>k ((a, b)::l)
theorem renMK_eq {β:Type} (f:Nat→Option Nat) : ∀ (l:List (AV × AV)) (k:List (AV × AV)→β), renMK f l k=k (l.map fun x=>(AV.renN f 6 x.1, AV.renN f 6 x.2))
  | [], k=>rfl
  | x::l, k=>by rw[renMK, renK_eq, renK_eq, renMK_eq f l]; rfl
def blkRenK {β:Type} (f:Nat→Option Nat) (g:Nat→Nat) (b:Blk) (k:Blk→β):β:=
  match b with
  | .gone=>k .gone
  | .resv=>k .resv
  | .row n els ro fl fam=>boolK ro fun ro=>natK (g fam) fun fam=>(match fl with
    | true=>spK els fun els=>k (.row n els ro true fam)
    | false=>renLK f els fun els=>k (.row n els ro false fam))
  | .map es=>renMK f es fun es=>k (.map es)
  | .iter s p=>k (.iter s p)
theorem blkRenK_eq {β:Type} (f:Nat→Option Nat) (g:Nat→Nat) (b:Blk) (k:Blk→β):blkRenK f g b k=k (Blk.ren f g b):=by
  cases b with
  | row n els ro fl fam=>cases fl<;>simp [blkRenK, Blk.ren, boolK_eq, natK_eq, spK_eq, renLK_eq]
  | map es=>simp only[blkRenK, Blk.ren, renMK_eq]
  | _=>rfl
def heapRenK {β:Type} (f:Nat→Option Nat) (g:Nat→Nat):Heap→(Heap→β)→β
  | [], k=>k []
  | b::l, k=>blkRenK f g b fun b=>heapRenK f g l fun l=>k (b::l)
theorem heapRenK_eq {β:Type} (f:Nat→Option Nat) (g:Nat→Nat) : ∀ (H:Heap) (k:Heap→β), heapRenK f g H k=k (H.map (Blk.ren f g))
  | [], k=>rfl
  | b::l, k=>by rw[heapRenK, blkRenK_eq, heapRenK_eq f g l]; rfl
structure ES where
  df:AV
  nt:Nat
  l:List (Nat × AV)
  heap:Heap
  base:Nat
  rb:Nat

def lookE (df:AV) (nt:Nat):List (Nat × AV)→Nat→AV
  | [], i=>match Nat.blt i nt with
    | true=>df
    | false=>undef
  | x::l, i=>match Nat.beq i x.1 with
    | true=>x.2
    | false=>lookE df nt l i
def ES.eval (e:ES):Opd→AV
  | .t i=>lookE e.df e.nt e.l i
  | .c v=>v
def ES.wanted (e:ES):Option (Nat × Bool)→Option Bool
  | none=>some true
  | some (t, b)=>match Nat.blt t e.nt with
    | true=>match lookE e.df e.nt e.l t with
      | .bool c=>some (c == b)
      | .tup []=>some false
      | _=>none
    | false=>none
/-- The two states are one. -/
structure Is (e:ES) (s:St):Prop where
  heap:s.heap=e.heap
  base:s.base=e.base
  rb:s.rb=e.rb
  len:s.tmps.length=e.nt
  at_ : ∀ i, s.tmps.getD i undef=lookE e.df e.nt e.l i
theorem Is.eval {e:ES} {s:St} (h:Is e s) (o:Opd):s.eval o=e.eval o:=by
  cases o with
  | t i=>exact h.at_ i
  | c v=>rfl
theorem Is.evals {e:ES} {s:St} (h:Is e s) (l:List Opd):l.map s.eval=l.map e.eval:=List.map_congr_left fun o _=>h.eval o
theorem Is.get {e:ES} {s:St} (h:Is e s) {t:Nat} (ht:t<e.nt):s.tmps[t]?=some (lookE e.df e.nt e.l t):=by
  have h1:=h.at_ t
  have h2:=h.len
  rw[List.getD_eq_getElem?_getD] at h1
  rw[List.getElem?_eq_getElem (by omega)] at h1 ⊢
  rw[←h1]
  rfl
theorem Is.wanted {e:ES} {s:St} (h:Is e s) {g:Option (Nat × Bool)} {b:Bool} (hw:e.wanted g=some b):s.wanted g=some b:=by
  cases g with
  | none=>exact hw
  | some tb=>
    obtain ⟨t, c⟩:=tb
    unfold ES.wanted at hw
    simp only at hw
    split at hw
    · rename_i hlt
      have hg:=h.get (bltI.1 hlt)
      unfold St.wanted
      simp only[hg]
      split at hw
      · rename_i d hd
        simp only[hd]
        exact hw
      · rename_i hd
        simp only[hd]
        exact hw
      · cases hw
    · cases hw
def ES.put (e:ES) (dst:Option Nat) (v:AV) (H:Heap):Option ES:=
  match dst with
  | none=>some ⟨e.df, e.nt, e.l, H, e.base, e.rb⟩
  | some d=>match Nat.blt d e.nt with
    | true=>some ⟨e.df, e.nt, (d, v)::e.l, H, e.base, e.rb⟩
    | false=>none
theorem Is.put {e:ES} {s:St} (h:Is e s) {dst:Option Nat} {v:AV} {H:Heap} {e':ES} (hp:e.put dst v H=some e'):Is e' (s.put dst v H):=by
  unfold ES.put at hp
  split at hp
  · cases hp
    exact ⟨rfl, h.base, h.rb, h.len, h.at_⟩
  · rename_i d
    split at hp
    · rename_i hlt
      cases hp
      have hd:d<e.nt:=bltI.1 hlt
      refine ⟨rfl, h.base, h.rb, by simp [St.put, h.len], fun i=>?_⟩
      show (s.tmps.set d v).getD i undef=_
      rw[List.getD_eq_getElem?_getD]
      unfold lookE
      by_cases hi:i=d
      · subst hi
        rw[List.getElem?_set_self (by rw[h.len]; exact hd), show Nat.beq i i=true from Nat.beq_refl i]
        rfl
      · rw[List.getElem?_set_ne (fun e=>hi e.symm), ← List.getD_eq_getElem?_getD, h.at_ i, show Nat.beq i d=false from by
          cases hb:Nat.beq i d with
          | false=>rfl
          | true=>exact (hi (Nat.eq_of_beq_eq_true hb)).elim]
    · cases hp

section
variable (R:Nat→List AV→Heap→Option (AV × Heap)) (PR:Nat→List AV→Option AV)
/-- What is put is worked out. -/
def nextE (lt:Bool) (e:ES) (dst:Option Nat) (v:AV) (k:ES→Option ES):Option ES:=
  valK lt v fun v=>match e.put dst v e.heap with
    | some e=>k e
    | none=>none
def nextHE (e:ES) (dst:Option Nat) (v:AV) (H:Heap) (k:ES→Option ES):Option ES:=
  avK 3 v fun v=>heapW H fun H=>match e.put dst v H with
    | some e=>k e
    | none=>none
def evOpsE:List AOper→ES→Option ES
  | [], e=>some e
  | ⟨dst, op, args, g⟩::l, e=>
    match e.wanted g with
    | none=>none
    | some false=>nextE true e dst undef (evOpsE l)
    | some true=>
      match op with
      | .pure p=>(match p.exec (args.map e.eval) with | some v=>nextE (lightP p) e dst v (evOpsE l) | none=>none)
      | .read p=>(match p.exec (args.map e.eval) e.heap with | some v=>nextE (lightR p) e dst v (evOpsE l) | none=>none)
      | .new p=>(match p.exec (args.map e.eval) e.heap.length with | some (v, b)=>nextHE e dst v (e.heap++[b]) (evOpsE l) | none=>none)
      | .newAt j p=>(match p.exec (args.map e.eval) (e.rb+j), e.heap[e.rb+j]? with | some (v, b), some .resv=>nextHE e dst v (e.heap.set (e.rb+j) b) (evOpsE l) | _, _=>none)
      | .eff p=>(match p.exec (args.map e.eval) e.heap with | some (v, H)=>nextHE e dst v H (evOpsE l) | none=>none)
      | .call f=>listK (avK 3) (args.map e.eval) fun as=>(match R f as e.heap with | some (v, H)=>nextHE e dst v H (evOpsE l) | none=>none)
      | .pcall f=>(match omap (frz e.heap 6) (args.map e.eval) with
        | some ts=>listK (avK 8) ts fun ts=>(match PR f ts with | some v=>nextHE e dst v (afterPure e.heap (args.map e.eval) v) (evOpsE l) | none=>none)
        | none=>none)
      | .callv=>(match args.map e.eval with
        | .fn f cap::as=>listK (avK 3) (as++cap) fun as=>(match R f as e.heap with | some (v, H)=>nextHE e dst v H (evOpsE l) | none=>none)
        | _=>none)
      | .bad=>none
variable {R PR}
theorem nextE_some {lt:Bool} {e e':ES} {dst:Option Nat} {v:AV} {k:ES→Option ES} (h:nextE lt e dst v k=some e') : ∃ e1, e.put dst v e.heap=some e1∧k e1=some e':=by
  unfold nextE at h
  rw[valK_eq] at h
  split at h
  · rename_i e1 h1
    exact ⟨e1, h1, h⟩
  · cases h
theorem nextHE_some {e e':ES} {dst:Option Nat} {v:AV} {H:Heap} {k:ES→Option ES} (h:nextHE e dst v H k=some e') : ∃ e1, e.put dst v H=some e1∧k e1=some e':=by
  unfold nextHE at h
  rw[avK_eq, heapW_eq] at h
  split at h
  · rename_i e1 h1
    exact ⟨e1, h1, h⟩
  · cases h
theorem evOpsE_is : ∀ (l:List AOper) (e e':ES) (s:St), Is e s→evOpsE R PR l e=some e'→∃ s', evOps R PR l s=some s'∧Is e' s'
  | [], e, e', s, hs, h=>by
    cases h
    exact ⟨s, rfl, hs⟩
  | ⟨dst, op, args, g⟩::l, e, e', s, hs, h=>by
    have ih:=evOpsE_is l
    have go : ∀ {v:AV} {H:Heap} {e1:ES}, e.put dst v H=some e1→evOpsE R PR l e1=some e'→∃ s', evOps R PR l (s.put dst v H)=some s'∧Is e' s':=fun hp hk=>ih _ _ _ (hs.put hp) hk
    unfold evOpsE at h
    unfold evOps
    split at h
    · cases h
    · rename_i hw
      obtain ⟨e1, h1, h2⟩:=nextE_some h
      simp only[hs.wanted hw, hs.heap]
      exact go h1 h2
    · rename_i hw
      simp only[hs.wanted hw, hs.evals, hs.heap, hs.rb]
      split at h
      · split at h
        · rename_i hv
          obtain ⟨e1, h1, h2⟩:=nextE_some h
          simp only[hv]
          exact go h1 h2
        · cases h
      · split at h
        · rename_i hv
          obtain ⟨e1, h1, h2⟩:=nextE_some h
          simp only[hv]
          exact go h1 h2
        · cases h
      · split at h
        · rename_i hv
          obtain ⟨e1, h1, h2⟩:=nextHE_some h
          simp only[hv]
          exact go h1 h2
        · cases h
      · split at h
        · rename_i hv hf
          obtain ⟨e1, h1, h2⟩:=nextHE_some h
          simp only[hv, hf]
          exact go h1 h2
        · cases h
      · split at h
        · rename_i hv
          obtain ⟨e1, h1, h2⟩:=nextHE_some h
          simp only[hv]
          exact go h1 h2
        · cases h
      · rw[listK_eq (avK_eq 3)] at h
        split at h
        · rename_i hv
          obtain ⟨e1, h1, h2⟩:=nextHE_some h
          simp only[hv]
          exact go h1 h2
        · cases h
      · split at h
        · rename_i hts
          rw[listK_eq (avK_eq 8)] at h
          split at h
          · rename_i hv
            obtain ⟨e1, h1, h2⟩:=nextHE_some h
            simp only[hts, hv]
            exact go h1 h2
          · cases h
        · cases h
      · split at h
        · rename_i ha
          rw[listK_eq (avK_eq 3)] at h
          split at h
          · rename_i hv
            obtain ⟨e1, h1, h2⟩:=nextHE_some h
            simp only[ha, hv]
            exact go h1 h2
          · cases h
        · cases h
      · cases h

end
/-! ### The head of a loop -/
def asc:Nat→List Nat→Nat→Bool
  | _, [], _=>true
  | k, i::l, n=>match Nat.ble k i with
    | true=>match Nat.blt i n with
      | true=>asc (i+1) l n
      | false=>false
    | false=>false
theorem asc_mem : ∀ (l:List Nat) (k n:Nat), asc k l n=true→∀ i, i∈l→k≤i∧i<n
  | [], _, _, _, i, h=>by cases h
  | j::l, k, n, h, i, hi=>by
    unfold asc at h
    split at h
    · rename_i h1
      split at h
      · rename_i h2
        have h1:=bleI.1 h1
        have h2:=bltI.1 h2
        rcases List.mem_cons.1 hi with rfl | hi
        · exact ⟨h1, h2⟩
        · have:=asc_mem l (j+1) n h i hi
          omega
      · cases h
    · cases h
theorem keep_congr {l l':List Nat} : ∀ (tm:List AV) (k:Nat), (∀ i, k≤i→(l.contains i=l'.contains i))→keepLive l k tm=keepLive l' k tm
  | [], _, _=>rfl
  | v::tm, k, h=>by rw[keepLive, keepLive, h k (Nat.le_refl _), keep_congr tm (k+1) fun i hi=>h i (by omega)]
theorem flatMap_congrG {α β:Type} {f g:α→List β} : ∀ {l:List α}, (∀ x, x∈l→f x=g x)→l.flatMap f=l.flatMap g
  | [], _=>rfl
  | x::l, h=>by
    simp only[List.flatMap_cons, h x (List.mem_cons_self ..), flatMap_congrG (fun y hy=>h y (List.mem_cons_of_mem _ hy))]
theorem keep_flat {f:AV→List Nat} (hf:f .dead=[]) : ∀ (tm:List AV) (k:Nat) (l:List Nat), asc k l (k+tm.length)=true→(keepLive l k tm).flatMap f=l.flatMap fun i=>f (tm.getD (i-k) undef)
  | [], k, l, h=>by
    cases l with
    | nil=>rfl
    | cons i l=>
      have:=asc_mem _ _ _ h i (by simp)
      simp at this
      omega
  | v::tm, k, l, h=>by
    cases l with
    | nil=>
      have : ∀ (tm:List AV) (k:Nat), (keepLive [] k tm).flatMap f=[]:=by
        intro tm
        induction tm with
        | nil=>intro k; rfl
        | cons v tm ih=>
          intro k
          rw[keepLive, List.flatMap_cons, ih]
          simp [hf]
      rw[this]
      rfl
    | cons i l=>
      have hm:=asc_mem _ _ _ h
      have hi:=hm i (by simp)
      rw[keepLive, List.flatMap_cons]
      by_cases hik:i=k
      · subst hik
        unfold asc at h
        rw[show Nat.ble i i=true from bleI.2 (Nat.le_refl _)] at h
        simp only at h
        split at h
        · have e1:keepLive (i::l) (i+1) tm=keepLive l (i+1) tm:=keep_congr tm (i+1) fun j hj=>by
            rw[List.contains_cons]
            have:(j == i)=false:=by simp; omega
            rw[this, Bool.false_or]
          have ih:=keep_flat hf tm (i+1) l (by rw[List.length_cons] at h; rw[show i+1+tm.length=i+(tm.length+1) by omega]; exact h)
          rw[e1, ih, List.flatMap_cons]
          have hl2:=asc_mem _ _ _ h
          congr 1
          · simp
          · exact (flatMap_congrG fun j hj=>by
              have:=(hl2 j hj).1
              rw[show j-i=(j-(i+1))+1 by omega, List.getD_cons_succ]).symm
        · cases h
      · have hgt:k<i:=by omega
        have hc:(i::l).contains k=false:=by
          cases hb:(i::l).contains k with
          | false=>rfl
          | true=>
            have hk:k∈i::l:=by simpa using hb
            have ha:asc i (i::l) (k+(v::tm).length)=true:=by
              unfold asc at h ⊢
              rw[show Nat.ble i i=true from bleI.2 (Nat.le_refl _)]
              split at h
              · exact h
              · cases h
            have:=(asc_mem _ _ _ ha k hk).1
            omega
        have ha:asc (k+1) (i::l) (k+1+tm.length)=true:=by
          rw[List.length_cons] at h
          rw[show k+1+tm.length=k+(tm.length+1) by omega]
          unfold asc at h ⊢
          rw[show Nat.ble (k+1) i=true from bleI.2 (by omega)]
          split at h
          · exact h
          · cases h
        have ih:=keep_flat hf tm (k+1) (i::l) ha
        have hm':=asc_mem _ _ _ ha
        simp only[hc, Bool.false_eq_true, if_false, hf, List.nil_append]
        rw[ih]
        exact (flatMap_congrG fun j hj=>by
          have:=(hm' j hj).1
          rw[show j-k=(j-(k+1))+1 by omega, List.getD_cons_succ])
def slotsK {β:Type} (f:Nat→Option Nat) (g:Nat→AV):List Nat→(List (Nat × AV)→β)→β
  | [], k=>k []
  | i::l, k=>renK f (g i) fun v=>slotsK f g l fun l=>k ((i, v)::l)
theorem slotsK_eq {β:Type} (f:Nat→Option Nat) (g:Nat→AV) : ∀ (l:List Nat) (k:List (Nat × AV)→β), slotsK f g l k=k (l.map fun i=>(i, AV.renN f 6 (g i)))
  | [], k=>rfl
  | i::l, k=>by rw[slotsK, renK_eq, slotsK_eq f g l]; rfl
/-- The roots, from the slots that are alive. -/
def normE (e:ES) (live:List Nat) (k:ES→Option (Ex × ES)):Option (Ex × ES):=
  match asc 0 live e.nt with
  | false=>none
  | true=>
    listK natK (reach e.heap e.base 4000 ((live.flatMap fun i=>AV.refsN 6 (lookE e.df e.nt e.l i))++(e.heap.take e.base).flatMap Blk.refs) []) fun ks=>
    heapW (e.heap.take e.base++ks.map fun r=>e.heap.getD r .gone) fun kept=>
    listK (fun p k=>natK p.1 fun a=>natK p.2 fun b=>k (a, b)) (droppedGo ks (e.heap.drop e.base) e.base) fun dr=>
    match closedBy (renOf e.base ks) kept && roFit dr kept with
    | true=>
      slotsK (renOf e.base ks) (lookE e.df e.nt e.l) live fun l=>
      heapRenK (renOf e.base ks) (famRen e.heap e.base ks) (roMark dr kept) fun H=>
      k ⟨.dead, e.nt, l, H, e.base, 0⟩
    | false=>k e
theorem lookE_map {g:Nat→AV} {df:AV} {nt:Nat} : ∀ (live:List Nat) (i:Nat), lookE df nt (live.map fun j=>(j, g j)) i=if live.contains i then g i else if i<nt then df else undef
  | [], i=>by
    simp only[List.map_nil, List.contains_nil, Bool.false_eq_true, if_false]
    unfold lookE
    by_cases h:i<nt
    · rw[show Nat.blt i nt=true from bltI.2 h, if_pos h]
    · rw[show Nat.blt i nt=false from by
        cases hb:Nat.blt i nt with
        | false=>rfl
        | true=>exact (h (bltI.1 hb)).elim, if_neg h]
  | j::live, i=>by
    rw[List.map_cons, List.contains_cons]
    unfold lookE
    by_cases h:i=j
    · subst h
      rw[show Nat.beq i i=true from Nat.beq_refl i]
      simp
    · rw[show Nat.beq i j=false from by
        cases hb:Nat.beq i j with
        | false=>rfl
        | true=>exact (h (Nat.eq_of_beq_eq_true hb)).elim]
      simp only
      rw[lookE_map live i, show (i == j)=false from by simpa using h, Bool.false_or]
theorem keep_getG (live:List Nat) : ∀ (tm:List AV) (k i:Nat), (keepLive live k tm)[i]?=(tm[i]?).map fun v=>if live.contains (k+i) then v else .dead
  | [], k, i=>by simp [keepLive]
  | v::tm, k, 0=>by simp [keepLive]
  | v::tm, k, i+1=>by
    simp only[keepLive, List.getElem?_cons_succ]
    rw[keep_getG live tm (k+1) i, show k+1+i=k+(i+1) by omega]
theorem keep_len (live:List Nat) : ∀ (tm:List AV) (k:Nat), (keepLive live k tm).length=tm.length
  | [], k=>rfl
  | v::tm, k=>by simp [keepLive, keep_len live tm (k+1)]
theorem dropPair {β:Type} (p:Nat × Nat) (k:Nat × Nat→β):natK p.1 (fun a=>natK p.2 fun b=>k (a, b))=k p:=by simp [natK_eq]
theorem normE_is {e:ES} {s:St} (hs:Is e s) {live:List Nat} {k:ES→Option (Ex × ES)} {r:Ex × ES} (h:normE e live k=some r) : ∃ e', Is e' (s.norm live)∧k e'=some r:=by
  unfold normE at h
  split at h
  · cases h
  rename_i ha
  have hlen:=hs.len
  have hroots:(keepLive live 0 s.tmps).flatMap (AV.refsN 6)=live.flatMap fun i=>AV.refsN 6 (lookE e.df e.nt e.l i):=by
    rw[keep_flat (f:=AV.refsN 6) rfl s.tmps 0 live (by rw[Nat.zero_add, hlen]; exact ha)]
    exact flatMap_congrG fun i _=>by rw[Nat.sub_zero, hs.at_ i]
  simp only[listK_eq natK_eq, heapW_eq, listK_eq dropPair, slotsK_eq, heapRenK_eq] at h
  unfold St.norm St.normTm
  rw[hroots, hs.heap, hs.base]
  generalize reach e.heap e.base 4000 ((live.flatMap fun i=>AV.refsN 6 (lookE e.df e.nt e.l i))++(e.heap.take e.base).flatMap Blk.refs) []=ks at h ⊢
  unfold St.normBy
  simp only[hs.heap, hs.base]
  split at h
  · rename_i hc
    refine ⟨_, ?_, h⟩
    rw[hc]
    refine ⟨rfl, rfl, rfl, by simp [normIf, keep_len, hlen], fun i=>?_⟩
    simp only[normIf]
    rw[lookE_map live i, List.getD_eq_getElem?_getD, List.getElem?_map, keep_getG]
    rw[Nat.zero_add]
    have hi:=hs.at_ i
    rw[List.getD_eq_getElem?_getD] at hi
    by_cases hl:i<s.tmps.length
    · rw[List.getElem?_eq_getElem hl] at hi ⊢
      simp only[Option.getD_some] at hi
      simp only[Option.map_some, Option.getD_some, hi]
      split
      · rfl
      · rw[if_pos (by omega)]
        rfl
    · rw[List.getElem?_eq_none (by omega)]
      simp only[Option.map_none, Option.getD_none]
      rw[if_neg, if_neg (by omega)]
      intro hcon
      have:=(asc_mem _ _ _ ha i (by simpa using hcon)).2
      omega
  · rename_i hc
    refine ⟨_, ?_, h⟩
    rw[hc]
    exact hs
/-! Heads with hints -/
def tmE (e:ES):List AV:=(List.range e.nt).map fun i=>lookE e.df e.nt e.l i
def enumT:Nat→List AV→List (Nat × AV)
  | _, []=>[]
  | i, v::vs=>(i, v)::enumT (i+1) vs
theorem enumT_look {df:AV} {nt:Nat} : ∀ (vs:List AV) (k i:Nat), k+vs.length≤nt→lookE df nt (enumT k vs) (k+i)=if h:i<vs.length then vs[i] else (if k+i<nt then df else undef)
  | [], k, i, h=>by
    simp only[enumT, List.length_nil, Nat.not_lt_zero, dite_false]
    unfold lookE
    by_cases h:k+i<nt
    · rw[show Nat.blt (k+i) nt=true from bltI.2 h, if_pos h]
    · rw[show Nat.blt (k+i) nt=false from by
        cases hb:Nat.blt (k+i) nt with
        | false=>rfl
        | true=>exact (h (bltI.1 hb)).elim, if_neg h]
  | v::vs, k, 0, h=>by
    unfold enumT lookE
    rw[Nat.add_zero, show Nat.beq k k=true from Nat.beq_refl k]
    simp
  | v::vs, k, i+1, h=>by
    unfold enumT lookE
    rw[show Nat.beq (k+(i+1)) k=false from by
      cases hb:Nat.beq (k+(i+1)) k with
      | false=>rfl
      | true=>have:=Nat.eq_of_beq_eq_true hb; omega]
    simp only
    rw[show k+(i+1)=k+1+i by omega, enumT_look vs (k+1) i (by simp at h; omega)]
    simp
theorem Is.tm {e:ES} {s:St} (h:Is e s):s=⟨tmE e, e.heap, e.base, e.rb⟩:=by
  obtain ⟨tm, H, b, rb⟩:=s
  obtain ⟨h1, h2, h3, h4, h5⟩:=h
  simp only at h1 h2 h3 h4
  subst h1
  subst h2
  subst h3
  congr 1
  apply List.ext_getElem?
  intro i
  unfold tmE
  have h5:=h5 i
  simp only at h5
  rw[List.getD_eq_getElem?_getD] at h5
  by_cases hi:i<tm.length
  · rw[List.getElem?_map, List.getElem?_range (by omega), List.getElem?_eq_getElem hi]
    rw[List.getElem?_eq_getElem hi] at h5
    simpa using h5
  · rw[List.getElem?_eq_none (by omega), List.getElem?_eq_none (by simp; omega)]
def ofT (df:AV) (s:St):ES:=⟨df, s.tmps.length, enumT 0 s.tmps, s.heap, s.base, s.rb⟩
theorem ofT_is (df:AV) (s:St):Is (ofT df s) s:=⟨rfl, rfl, rfl, rfl, fun i=>by
  have:=enumT_look (df:=df) (nt:=s.tmps.length) s.tmps 0 i (by omega)
  rw[Nat.zero_add] at this
  show s.tmps.getD i undef=lookE df s.tmps.length (enumT 0 s.tmps) i
  rw[this, List.getD_eq_getElem?_getD]
  by_cases hi:i<s.tmps.length
  · rw[dif_pos hi, List.getElem?_eq_getElem hi]
    rfl
  · rw[dif_neg hi, if_neg hi, List.getElem?_eq_none (by omega)]
    rfl⟩
theorem keep_below {live live2:List Nat} : ∀ (tm:List AV) (k:Nat), (∀ i, k≤i→i<k+tm.length→live.contains i=live2.contains i)→keepLive live k tm=keepLive live2 k tm
  | [], _, _=>rfl
  | v::tm, k, h=>by
    rw[keepLive, keepLive, keep_below tm (k+1) (fun i h1 h2=>h i (by omega) (by simp; omega)), h k (Nat.le_refl _) (by simp)]
theorem norm_below (live:List Nat) (s:St):s.norm (live.filter fun i=>Nat.blt i s.tmps.length)=s.norm live:=by
  unfold St.norm
  rw[keep_below (live2:=live) s.tmps 0 fun i _ hi=>by
    rw[Nat.zero_add] at hi
    rw[Bool.eq_iff_iff, List.contains_iff_mem, List.contains_iff_mem, List.mem_filter]
    exact ⟨fun h=>h.1, fun h=>⟨h, bltI.2 hi⟩⟩]
def headE (e:ES) (live:List Nat) (k:ES→Option (Ex × ES)):Option (Ex × ES):=
  match hintsOf live with
  | []=>normE e live k
  | hs=>(fun e'=>normE e' (live.filter fun i=>Nat.blt i e'.nt) k) (ofT e.df (hs.foldl St.thawBy ⟨tmE e, e.heap, e.base, e.rb⟩))
theorem headE_is {e:ES} {s:St} (hs:Is e s) {live:List Nat} {k:ES→Option (Ex × ES)} {r:Ex × ES} (h:headE e live k=some r) : ∃ e', Is e' (s.head live)∧k e'=some r:=by
  unfold headE at h
  split at h
  · rename_i hz
    obtain ⟨e', h1, h2⟩:=normE_is hs h
    exact ⟨e', by rw[head_norm hz]; exact h1, h2⟩
  · rw[←hs.tm] at h
    obtain ⟨e', h1, h2⟩:=normE_is (ofT_is e.df _) h
    refine ⟨e', ?_, h2⟩
    have:=norm_below live ((hintsOf live).foldl St.thawBy s)
    unfold St.head
    rw[←this]
    exact h1
def slotsSame (a b:ES):Nat→Bool
  | 0=>true
  | n+1=>match AV.same 100 (lookE a.df a.nt a.l n) (lookE b.df b.nt b.l n) with
    | true=>slotsSame a b n
    | false=>false
theorem slotsSame_eq {a b:ES} : ∀ (n:Nat), slotsSame a b n=true→∀ i, i<n→lookE a.df a.nt a.l i=lookE b.df b.nt b.l i
  | 0, _, i, hi=>absurd hi (Nat.not_lt_zero i)
  | n+1, h, i, hi=>by
    unfold slotsSame at h
    split at h
    · rename_i h1
      by_cases hin:i=n
      · subst hin
        exact AV.same_eq _ _ _ h1
      · exact slotsSame_eq n h i (by omega)
    · cases h
def ES.same (a b:ES):Bool:=decide (a.nt=b.nt) && slotsSame a b a.nt && sameL Blk.same a.heap b.heap && decide (a.base=b.base) && decide (a.rb=b.rb)
theorem Is.unique {a b:ES} {s t:St} (hs:Is a s) (ht:Is b t) (h:ES.same a b=true):s=t:=by
  unfold ES.same at h
  simp only[Bool.and_eq_true, decide_eq_true_eq] at h
  obtain ⟨⟨⟨⟨h1, h2⟩, h3⟩, h4⟩, h5⟩:=h
  have h3:=sameL_eq Blk.same_eq _ _ h3
  obtain ⟨tm, H, bs, rb⟩:=s
  obtain ⟨tm', H', bs', rb'⟩:=t
  have e1:=hs.heap
  have e2:=ht.heap
  have e3:=hs.base
  have e4:=ht.base
  have e5:=hs.rb
  have e6:=ht.rb
  have e7:=hs.len
  have e8:=ht.len
  have e9:=hs.at_
  have e10:=ht.at_
  simp only at e1 e2 e3 e4 e5 e6 e7 e8 e9 e10
  have:tm=tm':=List.ext_getElem? fun i=>by
    by_cases hi:i<tm.length
    · have a1:=e9 i
      have a2:=e10 i
      rw[List.getD_eq_getElem?_getD, List.getElem?_eq_getElem hi] at a1
      rw[List.getD_eq_getElem?_getD, List.getElem?_eq_getElem (by omega)] at a2
      rw[List.getElem?_eq_getElem hi, List.getElem?_eq_getElem (by omega)]
      simp only[Option.getD_some] at a1 a2
      rw[a1, a2, slotsSame_eq _ h2 i (by omega)]
    · rw[List.getElem?_eq_none (by omega), List.getElem?_eq_none (by omega)]
  rw[this, e1, e2, e3, e4, e5, e6, h3, h4, h5]
def keepE (e:ES) (k:Nat):ES:=⟨e.df, e.nt, e.l, e.heap++List.replicate k .resv, e.base, e.heap.length⟩
theorem keepE_is {e:ES} {s:St} (h:Is e s) (k:Nat):Is (keepE e k) (s.keep k):=⟨by simp [keepE, St.keep, h.heap], h.base, by simp [keepE, St.keep, h.heap], h.len, h.at_⟩
section
variable (R:Nat→List AV→Heap→Option (AV × Heap)) (PR:Nat→List AV→Option AV)
/-- The heap is worked out. -/
def hK (e:ES) (k:ES→Option (Ex × ES)):Option (Ex × ES):=heapK 2 e.heap fun H=>natK e.rb fun rb=>k ⟨e.df, e.nt, e.l, H, e.base, rb⟩
theorem hK_eq (e:ES) (k:ES→Option (Ex × ES)):hK e k=k e:=by simp [hK, heapK_eq, natK_eq]
def evCE:Nat→ACode→ES→Option (Ex × ES)
  | 0, _, _=>none
  | n+1, c, e=>
    match c with
    | .skip=>some (.normal, e)
    | .ops l=>(match evOpsE R PR l e with | some t=>some (.normal, t) | none=>none)
    | .draw k []=>none
    | .draw k (l::ls)=>hK (keepE e k) fun e=>(match evOpsE R PR l e with
      | some t=>(match ls.all (fun l=>match evOpsE R PR l e with | some u=>ES.same u t | none=>false) with
        | true=>some (.normal, ⟨t.df, t.nt, t.l, t.heap, t.base, 0⟩)
        | false=>none)
      | none=>none)
    | .seq a b=>(match evCE n a e with
      | some (.normal, t)=>evCE n b t
      | r=>r)
    | .cond x a b=>(match e.eval x with
      | .bool true=>evCE n a e
      | .bool false=>evCE n b e
      | _=>none)
    | .block id b=>(match evCE n b e with
      | some (x, t)=>some (x.out id, t)
      | none=>none)
    | .scope b=>evCE n b e
    | .loop live b=>(match headE e live (evCE n b) with
      | some (.normal, t)=>evCE n (.loop live b) t
      | r=>r)
    | .exit id=>some (.exit id, e)
    | .ret=>some (.ret, e)
end
section
variable {C:Ctx} {R:Nat→List AV→Heap→Option (AV × Heap)} {PR:Nat→List AV→Option AV}
theorem evCE_sound (hR : ∀ f a H v H', R f a H=some (v, H')→BS C (.run f a H v H')) (hP : ∀ f ts v, PR f ts=some v→BS C (.prun f ts v)) : ∀ (n:Nat) (c:ACode) (e:ES) (s:St) (x:Ex) (e':ES), Is e s→evCE R PR n c e=some (x, e')→∃ s', BS C (.exec c s x s')∧Is e' s'
  | 0, _, _, _, _, _, _, h=>by cases h
  | n+1, c, e, s, x, e', hs, h=>by
    have ih:=evCE_sound hR hP n
    have io : ∀ {l:List AOper} {e e':ES} {s:St}, Is e s→evOpsE R PR l e=some e'→∃ s', BS C (.ops l s s')∧Is e' s':=fun hs h=>by
      obtain ⟨s', h1, h2⟩:=evOpsE_is _ _ _ _ hs h
      exact ⟨s', evOps_sound hR hP _ _ _ h1, h2⟩
    unfold evCE at h
    split at h
    · cases h
      exact ⟨s, .skip s, hs⟩
    · split at h
      · rename_i ho
        cases h
        obtain ⟨s', h1, h2⟩:=io hs ho
        exact ⟨s', .ops h1, h2⟩
      · cases h
    · cases h
    · rename_i k l ls
      rw[hK_eq] at h
      split at h
      · rename_i t ho
        split at h
        · rename_i hall
          cases h
          obtain ⟨s1, h1, h2⟩:=io (keepE_is hs k) ho
          refine ⟨{ s1 with rb:=0 }, .draw (by simp) fun l' hl'=>?_, ⟨h2.heap, h2.base, rfl, h2.len, h2.at_⟩⟩
          rcases List.mem_cons.1 hl' with rfl | hl'
          · exact h1
          · have:=List.all_eq_true.1 hall l' hl'
            split at this
            · rename_i u hu
              obtain ⟨s2, g1, g2⟩:=io (keepE_is hs k) hu
              rw[←g2.unique h2 this]
              exact g1
            · cases this
        · cases h
      · cases h
    · split at h
      · rename_i t ha
        obtain ⟨s1, h1, h2⟩:=ih _ _ _ _ _ hs ha
        obtain ⟨s2, g1, g2⟩:=ih _ _ _ _ _ h2 h
        exact ⟨s2, .seq h1 g1, g2⟩
      · rename_i hne
        obtain ⟨s1, h1, h2⟩:=ih _ _ _ _ _ hs h
        exact ⟨s1, .seqE h1 fun he=>by
          subst he
          exact hne _ h, h2⟩
    · rename_i y a b
      split at h
      · rename_i hx
        obtain ⟨s1, h1, h2⟩:=ih _ _ _ _ _ hs h
        exact ⟨s1, .condT (by rw[hs.eval y, hx]) h1, h2⟩
      · rename_i hx
        obtain ⟨s1, h1, h2⟩:=ih _ _ _ _ _ hs h
        exact ⟨s1, .condF (by rw[hs.eval y, hx]) h1, h2⟩
      · cases h
    · split at h
      · rename_i ha
        cases h
        obtain ⟨s1, h1, h2⟩:=ih _ _ _ _ _ hs ha
        exact ⟨s1, .block h1, h2⟩
      · cases h
    · obtain ⟨s1, h1, h2⟩:=ih _ _ _ _ _ hs h
      exact ⟨s1, .scope h1, h2⟩
    · rename_i live b
      split at h
      · rename_i t ha
        obtain ⟨e1, g0, g1⟩:=headE_is hs ha
        obtain ⟨s1, h1, h2⟩:=ih _ _ _ _ _ g0 g1
        obtain ⟨s2, g1, g2⟩:=ih _ _ _ _ _ h2 h
        exact ⟨s2, .loop h1 g1, g2⟩
      · rename_i hne
        obtain ⟨e1, g0, g1⟩:=headE_is hs h
        obtain ⟨s1, h1, h2⟩:=ih _ _ _ _ _ g0 g1
        exact ⟨s1, .loopE h1 fun he=>by
          subst he
          exact hne _ h, h2⟩
    · cases h
      exact ⟨s, .exit _ s, hs⟩
    · cases h
      exact ⟨s, .ret s, hs⟩
end
/-! ### Entry and results -/
def enumE:Nat→List AV→List (Nat × AV)
  | _, []=>[]
  | i, v::vs=>(i, v)::enumE (i+1) vs
def resOneE (e:ES):ResV→Option AV
  | .tmp i=>some (lookE e.df e.nt e.l i)
  | .cell i sz=>ROp.exec (.load sz) [lookE e.df e.nt e.l i] e.heap
def resultsE (res:List ResV) (e:ES):Option AV:=
  match omap (resOneE e) res with
  | some [v]=>some v
  | some vs=>some (.tup vs)
  | none=>none
theorem resultsE_is {e:ES} {s:St} (h:Is e s) (res:List ResV):results res s=resultsE res e:=by
  have:resOne s=resOneE e:=funext fun r=>by
    cases r with
    | tmp i=>simp only[resOne, resOneE, h.at_ i]
    | cell i sz=>simp only[resOne, resOneE, h.at_ i, h.heap]
  unfold results resultsE
  rw[this]
  rfl
theorem enumE_look {df:AV} {nt:Nat} : ∀ (vs:List AV) (k i:Nat), k+vs.length≤nt→lookE df nt (enumE k vs) (k+i)=if h:i<vs.length then vs[i] else (if k+i<nt then df else undef)
  | [], k, i, _=>by
    simp only[enumE, List.length_nil, Nat.not_lt_zero, dite_false]
    unfold lookE
    by_cases h:k+i<nt
    · rw[bltI.2 h, if_pos h]
    · rw[show Nat.blt (k+i) nt=false from by
        cases hb:Nat.blt (k+i) nt with
        | false=>rfl
        | true=>exact (h (bltI.1 hb)).elim, if_neg h]
  | v::vs, k, 0, h=>by
    unfold enumE lookE
    rw[Nat.add_zero, show Nat.beq k k=true from Nat.beq_refl k]
    simp
  | v::vs, k, i+1, h=>by
    unfold enumE lookE
    rw[show Nat.beq (k+(i+1)) k=false from by
      cases hb:Nat.beq (k+(i+1)) k with
      | false=>rfl
      | true=>have:=Nat.eq_of_beq_eq_true hb; omega]
    simp only
    rw[show k+(i+1)=k+1+i by omega, enumE_look vs (k+1) i (by simp at h; omega)]
    simp
def enterE (fn:AFn) (args:List AV) (H:Heap) (k:ES→Option (Ex × ES)):Option (Ex × ES):=
  natK args.length fun n=>natK (n+(fn.nt-n)) fun nt=>natK H.length fun b=>listK (fun p k=>natK p.1 fun i=>k (i, p.2)) (enumE 0 args) fun l=>k ⟨undef, nt, l, H, b, 0⟩
theorem enterE_is (fn:AFn) (args:List AV) (H:Heap) (k:ES→Option (Ex × ES)) : ∃ e, Is e (enter fn args H)∧enterE fn args H k=k e:=by
  refine ⟨⟨undef, args.length+(fn.nt-args.length), enumE 0 args, H, H.length, 0⟩, ⟨rfl, rfl, rfl, by simp [enter], fun i=>?_⟩, ?_⟩
  · have:=enumE_look (df:=undef) (nt:=args.length+(fn.nt-args.length)) args 0 i (by omega)
    rw[Nat.zero_add] at this
    rw[this, List.getD_eq_getElem?_getD]
    simp only[enter]
    by_cases h:i<args.length
    · rw[dif_pos h, List.getElem?_append_left h, List.getElem?_eq_getElem h]
      rfl
    · rw[dif_neg h, List.getElem?_append_right (by omega), List.getElem?_replicate]
      split<;>split<;>rfl
  · unfold enterE
    simp only[natK_eq]
    rw[listK_eq fun p k=>rfl]
section
variable (code:Nat→Option AFn) (clR clP:Nat→Option (Nat × Nat)) (orP:Nat→List AV→Option AV)
def evH:Nat→(Nat→List AV→Heap→Option (AV × Heap)) × (Nat→List AV→Option AV)
  | 0=>(fun _ _ _=>none, fun _ _=>none)
  | n+1=>
    (fun f args H=>
      match code f with
      | some fn=>(match enterE fn args H (evCE (evH n).1 (evH n).2 n fn.body) with
        | some (e, t)=>(match okEx e with
          | true=>(match resultsE fn.res t with
            | some v=>(match tidy H.length v t.heap with | ⟨tm, h, _, _⟩=>some (tm.getD 0 .dead, h))
            | none=>none)
          | false=>none)
        | none=>none)
      | none=>(match clR f, args with
        | some p, [x]=>xAppend p.1 p.2 (H++[.gone]) [.snil p.1, x]
        | _, _=>none),
     fun f ts=>
      match orP f ts with
      | some v=>some v
      | none=>
        match code f with
        | some fn=>(match enterE fn ts [] (evCE (evH n).1 (evH n).2 n fn.body) with
          | some (e, t)=>(match okEx e with
            | true=>(match resultsE fn.res t with
              | some u=>frz t.heap 6 u
              | none=>none)
            | false=>none)
          | none=>none)
        | none=>(match clP f, ts with
          | some p, [.tsl n l]=>if n=p.1∧l.length≤lim∧l.length * p.2≤2^40 then some (.tsl p.1 l) else none
          | _, _=>none))
end
/-- A machine that has this code and these copies. -/
structure Fits (C:Ctx) (code:Nat→Option AFn) (clR clP:Nat→Option (Nat × Nat)):Prop where
  code : ∀ f fn, code f=some fn→C.code f=some fn
  prim : ∀ f p x H v H', clR f=some p→xAppend p.1 p.2 (H++[.gone]) [.snil p.1, x]=some (v, H')→C.prim f [x] H v H'
  pprim : ∀ f p l, clP f=some p→l.length≤lim→l.length * p.2≤2^40→C.pprim f [.tsl p.1 l] (.tsl p.1 l)
theorem fits_mk (code:Nat→Option AFn) (clR clP:Nat→Option (Nat × Nat)):Fits (mkCtx code clR clP) code clR clP:=
  ⟨fun _ _ h=>h, fun f p x H v H' h1 h2=>⟨p, x, h1, rfl, h2⟩, fun f p l h1 h2 h3=>⟨p, l, h1, rfl, h2, h3, rfl⟩⟩
theorem evH_sound {C:Ctx} (code:Nat→Option AFn) (clR clP:Nat→Option (Nat × Nat)) (hF:Fits C code clR clP) (orP:Nat→List AV→Option AV) (hor : ∀ f ts v, orP f ts=some v→PRun C f ts v) : ∀ (n:Nat), (∀ f a H v H', (evH code clR clP orP n).1 f a H=some (v, H')→BS C (.run f a H v H'))∧∀ f ts v, (evH code clR clP orP n).2 f ts=some v→BS C (.prun f ts v)
  | 0=>⟨fun f a H v H' (h:none=some (v, H'))=>by (cases h), fun f ts v (h:none=some v)=>by (cases h)⟩
  | n+1=>by
    obtain ⟨ih1, ih2⟩:=evH_sound code clR clP hF orP hor n
    refine ⟨fun f a H v H' h=>?_, fun f ts v h=>?_⟩
    · simp only[evH] at h
      split at h
      · rename_i fn hf
        split at h
        · rename_i e t hc
          split at h
          · rename_i he
            split at h
            · rename_i u hu
              cases h
              obtain ⟨e0, g0, g1⟩:=enterE_is fn a H (evCE (evH code clR clP orP n).1 (evH code clR clP orP n).2 n fn.body)
              rw[g1] at hc
              obtain ⟨s1, h1, h2⟩:=evCE_sound ih1 ih2 _ _ _ _ _ _ g0 hc
              rw[←resultsE_is h2] at hu
              have:=BS.run (hF.code _ _ hf) h1 (okEx_or he) hu
              rw[h2.heap] at this
              exact this
            · cases h
          · cases h
        · cases h
      · split at h
        · rename_i p x hp
          exact .prim (hF.prim _ _ _ _ _ _ hp h)
        · cases h
    · simp only[evH] at h
      split at h
      · rename_i u hu
        cases h
        exact hor f ts _ hu
      · split at h
        · rename_i fn hf
          split at h
          · rename_i e t hc
            split at h
            · rename_i he
              split at h
              · rename_i u hu
                obtain ⟨e0, g0, g1⟩:=enterE_is fn ts [] (evCE (evH code clR clP orP n).1 (evH code clR clP orP n).2 n fn.body)
                rw[g1] at hc
                obtain ⟨s1, h1, h2⟩:=evCE_sound ih1 ih2 _ _ _ _ _ _ g0 hc
                rw[←resultsE_is h2] at hu
                exact .prun (hF.code _ _ hf) h1 (okEx_or he) hu (by rw[h2.heap]; exact h)
              · cases h
            · cases h
          · cases h
        · split at h
          · rename_i p m l hp _
            split at h
            · rename_i hc
              obtain ⟨rfl, h2, h3⟩:=hc
              cases h
              exact .pprim (hF.pprim _ _ _ hp h2 h3)
            · cases h
          · cases h
/-- A call that is carried out. -/
theorem prun_fast {C:Ctx} {code:Nat→Option AFn} {clR clP:Nat→Option (Nat × Nat)} (hF:Fits C code clR clP) (orP:Nat→List AV→Option AV) (hor : ∀ f ts v, orP f ts=some v→PRun C f ts v) (n:Nat) {f:Nat} {ts:List AV} {v:AV} (h:(evH code clR clP orP n).2 f ts=some v):PRun C f ts v:=(evH_sound code clR clP hF orP hor n).2 f ts v h
end Ago
/- Calls of known arguments, one by one: what was carried out once is taken from a table. -/
namespace Ago
def orT:List (Nat × List AV × AV)→Nat→List AV→Option AV
  | [], _, _=>none
  | x::l, f, ts=>match Nat.beq f x.1 with
    | true=>match sameL (AV.same 100) ts x.2.1 with
      | true=>some x.2.2
      | false=>orT l f ts
    | false=>orT l f ts
inductive OrOk (C:Ctx):List (Nat × List AV × AV)→Prop
  | nil:OrOk C []
  | cons {f:Nat} {ts:List AV} {v:AV} {l:List (Nat × List AV × AV)}:PRun C f ts v→OrOk C l→OrOk C ((f, ts, v)::l)
theorem OrOk.get {C:Ctx} {l:List (Nat × List AV × AV)} (h:OrOk C l) : ∀ f ts v, orT l f ts=some v→PRun C f ts v:=by
  induction h with
  | nil=>
    intro f ts v h
    cases h
  | cons hp _ ih=>
    intro f ts v h
    unfold orT at h
    split at h
    · rename_i h1
      split at h
      · rename_i h2
        cases h
        rw[Nat.eq_of_beq_eq_true h1, sameL_eq (AV.same_eq 100) _ _ h2]
        exact hp
      · exact ih _ _ _ h
    · exact ih _ _ _ h
def isIt (o:Option AV) (v:AV):Bool:=match o with
  | some u=>AV.same 100 u v
  | none=>false
theorem isIt_eq {o:Option AV} {v:AV} (h:isIt o v=true):o=some v:=by
  unfold isIt at h
  split at h
  · rw[AV.same_eq _ _ _ h]
  · cases h
end Ago
