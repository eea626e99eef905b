/- The abstract machine as a program for the kernel: q0i as a list of what was written last,so that what was just written is qhL at once. -/
import Derived.Test.YtahoajoopdphhaaGreatDoorMachF
import Derived.KernelRfl
set_option linter.unusedSimpArgs false
set_option linter.unusedVariables false
namespace Ago

theorem qlM {a b:Nat}:Nat.blt a b=true↔a<b:=by rw[Nat.blt_eq]
theorem qvr {a b:Nat}:Nat.ble a b=true↔a≤b:=by rw[Nat.ble_eq]
def spK {α β:Type}:List α→(List α→β)→β
 | [],k=>k []
 | x::l,k=>spK l fun l=>k (x::l)
theorem ql5 {α β:Type} : ∀ (l:List α) (k:List α→β),spK l k=k l
 | [],k=>rfl
 | x::l,k=>by rw[spK,ql5 l]
def avL {β:Type} (v:AV) (k:AV→β):β:=
 match v with
 | .int t i=>quA i fun i=>k (.int t i)
 | .bool b=>qdI b fun b=>k (.bool b)
 | .sref a b c d=>q5b b fun b=>q5b c fun c=>q5b d fun d=>k (.sref a b c d)
 | .ptr a b c d=>q5b b fun b=>q5b c fun c=>q5b d fun d=>k (.ptr a b c d)
 | .agg l=>spK l fun l=>k (.agg l)
 | .tup l=>spK l fun l=>k (.tup l)
 | .tptr l a=>q5b a fun a=>k (.tptr l a)
 | .mref a=>q5b a fun a=>k (.mref a)
 | .dead=>k .dead
 | .str s=>k (.str s)
 | .nilp=>k .nilp
 | .nilf=>k .nilf
 | .nili=>k .nili
 | .nilm=>k .nilm
 | .snil a=>k (.snil a)
 | .tsl a l=>k (.tsl a l)
 | .iref a=>k (.iref a)
 | .fn a l=>k (.fn a l)
 | .ifc a u=>k (.ifc a u)
theorem qsF {β:Type} (v:AV) (k:AV→β):avL v k=k v:=by
 cases v<;>simp [avL,qky,q7V,q41,ql5]
def avR {β:Type}:Nat→AV→(AV→β)→β
 | 0,x,k=>k x
 | n+1,x,k=>
  match x with
  | .sref a b c d=>q5b b fun b=>k (.sref a b c d)
  | .ptr a b c d=>q5b b fun b=>k (.ptr a b c d)
  | .mref a=>q5b a fun a=>k (.mref a)
  | .iref a=>q5b a fun a=>k (.iref a)
  | .agg l=>q4L (avR n) l fun l=>k (.agg l)
  | .tup l=>q4L (avR n) l fun l=>k (.tup l)
  | .fn a l=>q4L (avR n) l fun l=>k (.fn a l)
  | .ifc a u=>avR n u fun u=>k (.ifc a u)
  | .int t i=>k (.int t i)
  | .bool b=>k (.bool b)
  | .tptr l a=>k (.tptr l a)
  | .dead=>k .dead
  | .str s=>k (.str s)
  | .nilp=>k .nilp
  | .nilf=>k .nilf
  | .nili=>k .nili
  | .nilm=>k .nilm
  | .snil a=>k (.snil a)
  | .tsl a l=>k (.tsl a l)
theorem qoR {β:Type} : ∀ (n:Nat) (x:AV) (k:AV→β),avR n x k=k x
 | 0,_,_=>rfl
 | n+1,x,k=>by
  have ih:=qoR (β:=β) n
  cases x<;>simp [avR,q41,q2w ih,ih]
def qwv {β:Type} (b:Blk) (k:Blk→β):β:=
 match b with
 | .gone=>k .gone
 | .resv=>k .resv
 | .row n els ro fl fam=>qdI ro fun ro=>qdI fl fun fl=>q5b fam fun fam=>k (.row n els ro fl fam)
 | .map es=>k (.map es)
 | .iter s p=>k (.iter s p)
theorem qqV {β:Type} (b:Blk) (k:Blk→β):qwv b k=k b:=by
 cases b<;>simp [qwv,q7V,q41]
def qqu {β:Type}:Heap→(Heap→β)→β:=q4L qwv
theorem qhx {β:Type} (H:Heap) (k:Heap→β):qqu H k=k H:=q2w qqV H k
def qsX:POp→Bool
 | .move=>true
 | .pick=>true
 | .ext _=>true
 | .field _ _ _=>true
 | .faddr _=>true
 | .iaddrS _=>true
 | _=>false
def qtq:ROp→Bool
 | .load _=>true
 | _=>false
def qwb {β:Type} (b:Bool) (v:AV) (k:AV→β):β:=
 match b with
 | true=>avL v k
 | false=>avK 3 v k
theorem qpK {β:Type} (b:Bool) (v:AV) (k:AV→β):qwb b v k=k v:=by
 cases b<;>simp [qwb,qsF,q7G]
def AV.calm:Nat→AV→Bool
 | 0,_=>false
 | n+1,x=>
  match x with
  | .sref _ _ _ _=>false
  | .ptr _ _ _ _=>false
  | .mref _=>false
  | .iref _=>false
  | .agg l=>l.all (AV.calm n)
  | .tup l=>l.all (AV.calm n)
  | .fn _ l=>l.all (AV.calm n)
  | .ifc _ u=>AV.calm n u
  | _=>true
theorem qgD {f:AV→AV} {c:AV→Bool} (h : ∀ x,c x=true→f x=x) : ∀ (l:List AV),l.all c=true→l.map f=l
 | [],_=>rfl
 | x::l,hl=>by
  simp only[Vy,Kk] at hl
  rw[Kd,h x hl.1,qgD h l hl.2]
theorem AV.calm_ren {f:Nat→Option Nat} : ∀ (n:Nat) (x:AV),AV.calm n x=true→AV.renN f n x=x
 | 0,_,h=>by cases h
 | n+1,x,h=>by
  have ih:=AV.calm_ren (f:=f) n
  cases x<;>simp only[AV.calm,Km] at h<;>first | rfl | (simp only[AV.renN,qgD ih _ h]) | (simp only[AV.renN,ih _ h])
def vW {β:Type} (v:AV) (k:AV→β):β:=
 match v with
 | .sref a b c d=>k (.sref a b c d)
 | .ptr a b c d=>k (.ptr a b c d)
 | .mref a=>k (.mref a)
 | .iref a=>k (.iref a)
 | .agg l=>k (.agg l)
 | .tup l=>k (.tup l)
 | .fn a l=>k (.fn a l)
 | .ifc a u=>k (.ifc a u)
 | .int t i=>k (.int t i)
 | .bool b=>k (.bool b)
 | .tptr l a=>k (.tptr l a)
 | .dead=>k .dead
 | .str s=>k (.str s)
 | .nilp=>k .nilp
 | .nilf=>k .nilf
 | .nili=>k .nili
 | .nilm=>k .nilm
 | .snil a=>k (.snil a)
 | .tsl a l=>k (.tsl a l)
theorem qvR {β:Type} (v:AV) (k:AV→β):vW v k=k v:=by cases v<;>rfl
def qro {β:Type} (f:Nat→Option Nat) (v:AV) (k:AV→β):β:=
 vW v fun v=>match AV.calm 6 v with
  | true=>k v
  | false=>avR 6 (AV.renN f 6 v) k
theorem qcb {β:Type} (f:Nat→Option Nat) (v:AV) (k:AV→β):qro f v k=k (AV.renN f 6 v):=by
 unfold qro
 rw[qvR]
 split
 ·rename_i h
  rw[AV.calm_ren 6 v h]
 ·rw[qoR]
def qoj {β:Type} (f:Nat→Option Nat):List AV→(List AV→β)→β
 | [],k=>k []
 | x::l,k=>qro f x fun x=>qoj f l fun l=>k (x::l)
theorem qgL {β:Type} (f:Nat→Option Nat) : ∀ (l:List AV) (k:List AV→β),qoj f l k=k (l.map (AV.renN f 6))
 | [],k=>rfl
 | x::l,k=>by rw[qoj,qcb,qgL f l]; rfl
def qoi {β:Type} (f:Nat→Option Nat):List (AV × AV)→(List (AV × AV)→β)→β
 | [],k=>k []
 | x::l,k=>qro f x.1 fun a=>qro f x.2 fun b=>qoi f l fun l=>k ((a,b)::l)
theorem qgY {β:Type} (f:Nat→Option Nat) : ∀ (l:List (AV × AV)) (k:List (AV × AV)→β),qoi f l k=k (l.map fun x=>(AV.renN f 6 x.1,AV.renN f 6 x.2))
 | [],k=>rfl
 | x::l,k=>by rw[qoi,qcb,qcb,qgY f l]; rfl
def qcy {β:Type} (f:Nat→Option Nat) (g:Nat→Nat) (b:Blk) (k:Blk→β):β:=
 match b with
 | .gone=>k .gone
 | .resv=>k .resv
 | .row n els ro fl fam=>qdI ro fun ro=>q5b (g fam) fun fam=>(match fl with
  | true=>spK els fun els=>k (.row n els ro true fam)
  | false=>qoj f els fun els=>k (.row n els ro false fam))
 | .map es=>qoi f es fun es=>k (.map es)
 | .iter s p=>k (.iter s p)
theorem qhR {β:Type} (f:Nat→Option Nat) (g:Nat→Nat) (b:Blk) (k:Blk→β):qcy f g b k=k (Blk.ren f g b):=by
 cases b with
 | row n els ro fl fam=>cases fl<;>simp [qcy,Blk.ren,q7V,q41,ql5,qgL]
 | map es=>simp only[qcy,Blk.ren,qgY]
 | _=>rfl
def q94 {β:Type} (f:Nat→Option Nat) (g:Nat→Nat):Heap→(Heap→β)→β
 | [],k=>k []
 | b::l,k=>qcy f g b fun b=>q94 f g l fun l=>k (b::l)
theorem qaz {β:Type} (f:Nat→Option Nat) (g:Nat→Nat) : ∀ (H:Heap) (k:Heap→β),q94 f g H k=k (H.map (Blk.ren f g))
 | [],k=>rfl
 | b::l,k=>by rw[q94,qhR,qaz f g l]; rfl
structure ES where
 df:AV
 nt:Nat
 l:List (Nat × AV)
 heap:Heap
 base:Nat
 rb:Nat

def q3k (df:AV) (nt:Nat):List (Nat × AV)→Nat→AV
 | [],i=>match Nat.blt i nt with
  | true=>df
  | false=>undef
 | x::l,i=>match Nat.beq i x.1 with
  | true=>x.2
  | false=>q3k df nt l i
def ES.eval (e:ES):Opd→AV
 | .t i=>q3k e.df e.nt e.l i
 | .c v=>v
def ES.wanted (e:ES):Option (Nat × Bool)→Option Bool
 | none=>some true
 | some (t,b)=>match Nat.blt t e.nt with
  | true=>match q3k e.df e.nt e.l t with
   | .bool c=>some (c == b)
   | .tup []=>some false
   | _=>none
  | false=>none
structure Is (e:ES) (s:St):Prop where
 heap:s.heap=e.heap
 base:s.base=e.base
 rb:s.rb=e.rb
 len:s.tmps.length=e.nt
 at_ : ∀ i,s.tmps.getD i undef=q3k e.df e.nt e.l i
theorem Is.eval {e:ES} {s:St} (h:Is e s) (o:Opd):s.eval o=e.eval o:=by
 cases o with
 | t i=>exact h.at_ i
 | c v=>rfl
theorem Is.evals {e:ES} {s:St} (h:Is e s) (l:List Opd):l.map s.eval=l.map e.eval:=V1 fun o _=>h.eval o
theorem Is.get {e:ES} {s:St} (h:Is e s) {t:Nat} (ht:t<e.nt):s.tmps[t]?=some (q3k e.df e.nt e.l t):=by
 have h1:=h.at_ t
 have h2:=h.len
 rw[Ko] at h1
 rw[Ki (by omega)] at h1 ⊢
 rw[←h1]
 rfl
theorem Is.wanted {e:ES} {s:St} (h:Is e s) {g:Option (Nat × Bool)} {b:Bool} (hw:e.wanted g=some b):s.wanted g=some b:=by
 cases g with
 | none=>exact hw
 | some tb=>
  obtain ⟨t,c⟩:=tb
  unfold ES.wanted at hw
  simp only at hw
  split at hw
  ·rename_i hlt
   have hg:=h.get (qlM.1 hlt)
   unfold St.wanted
   simp only[hg]
   split at hw
   ·rename_i d hd
    simp only[hd]
    exact hw
   ·rename_i hd
    simp only[hd]
    exact hw
   ·cases hw
  ·cases hw
def ES.put (e:ES) (dst:Option Nat) (v:AV) (H:Heap):Option ES:=
 match dst with
 | none=>some ⟨e.df,e.nt,e.l,H,e.base,e.rb⟩
 | some d=>match Nat.blt d e.nt with
  | true=>some ⟨e.df,e.nt,(d,v)::e.l,H,e.base,e.rb⟩
  | false=>none
theorem Is.put {e:ES} {s:St} (h:Is e s) {dst:Option Nat} {v:AV} {H:Heap} {e':ES} (hp:e.put dst v H=some e'):Is e' (s.put dst v H):=by
 unfold ES.put at hp
 split at hp
 ·cases hp
  exact ⟨rfl,h.base,h.rb,h.len,h.at_⟩
 ·rename_i d
  split at hp
  ·rename_i hlt
   cases hp
   have hd:d<e.nt:=qlM.1 hlt
   refine ⟨rfl,h.base,h.rb,by simp [St.put,h.len],fun i=>?_⟩
   show (s.tmps.set d v).getD i undef=_
   rw[Ko]
   unfold q3k
   by_cases hi:i=d
   ·subst hi
    rw[Ve (by rw[h.len]; exact hd),show Nat.beq i i=true from Nat.beq_refl i]
    rfl
   ·rw[K0 (fun e=>hi e.symm),←Ko,h.at_ i,show Nat.beq i d=false from by
     cases hb:Nat.beq i d with
     | false=>rfl
     | true=>exact (hi (Nat.eq_of_beq_eq_true hb)).elim]
  ·cases hp

section
variable (R:Nat→List AV→Heap→Option (AV × Heap)) (PR:Nat→List AV→Option AV)
def qk5 (lt:Bool) (e:ES) (dst:Option Nat) (v:AV) (k:ES→Option ES):Option ES:=
 qwb lt v fun v=>match e.put dst v e.heap with
  | some e=>k e
  | none=>none
def q8W (e:ES) (dst:Option Nat) (v:AV) (H:Heap) (k:ES→Option ES):Option ES:=
 avK 3 v fun v=>qqu H fun H=>match e.put dst v H with
  | some e=>k e
  | none=>none
def q43:List AOper→ES→Option ES
 | [],e=>some e
 | ⟨dst,op,args,g⟩::l,e=>
  match e.wanted g with
  | none=>none
  | some false=>qk5 true e dst undef (q43 l)
  | some true=>
   match op with
   | .pure p=>(match p.exec (args.map e.eval) with | some v=>qk5 (qsX p) e dst v (q43 l) | none=>none)
   | .read p=>(match p.exec (args.map e.eval) e.heap with | some v=>qk5 (qtq p) e dst v (q43 l) | none=>none)
   | .new p=>(match p.exec (args.map e.eval) e.heap.length with | some (v,b)=>q8W e dst v (e.heap++[b]) (q43 l) | none=>none)
   | .newAt j p=>(match p.exec (args.map e.eval) (e.rb+j),e.heap[e.rb+j]? with | some (v,b),some .resv=>q8W e dst v (e.heap.set (e.rb+j) b) (q43 l) | _,_=>none)
   | .eff p=>(match p.exec (args.map e.eval) e.heap with | some (v,H)=>q8W e dst v H (q43 l) | none=>none)
   | .call f=>q4L (avK 3) (args.map e.eval) fun as=>(match R f as e.heap with | some (v,H)=>q8W e dst v H (q43 l) | none=>none)
   | .pcall f=>(match q1L (frz e.heap 6) (args.map e.eval) with
    | some ts=>q4L (avK 8) ts fun ts=>(match PR f ts with | some v=>q8W e dst v (q0L e.heap (args.map e.eval) v) (q43 l) | none=>none)
    | none=>none)
   | .callv=>(match args.map e.eval with
    | .fn f cap::as=>q4L (avK 3) (as++cap) fun as=>(match R f as e.heap with | some (v,H)=>q8W e dst v H (q43 l) | none=>none)
    | _=>none)
   | .bad=>none
variable {R PR}
theorem q8j {lt:Bool} {e e':ES} {dst:Option Nat} {v:AV} {k:ES→Option ES} (h:qk5 lt e dst v k=some e') : ∃ e1,e.put dst v e.heap=some e1∧k e1=some e':=by
 unfold qk5 at h
 rw[qpK] at h
 split at h
 ·rename_i e1 h1
  exact ⟨e1,h1,h⟩
 ·cases h
theorem q3z {e e':ES} {dst:Option Nat} {v:AV} {H:Heap} {k:ES→Option ES} (h:q8W e dst v H k=some e') : ∃ e1,e.put dst v H=some e1∧k e1=some e':=by
 unfold q8W at h
 rw[q7G,qhx] at h
 split at h
 ·rename_i e1 h1
  exact ⟨e1,h1,h⟩
 ·cases h
theorem qeI : ∀ (l:List AOper) (e e':ES) (s:St),Is e s→q43 R PR l e=some e'→∃ s',q6F R PR l s=some s'∧Is e' s'
 | [],e,e',s,hs,h=>by
  cases h
  exact ⟨s,rfl,hs⟩
 | ⟨dst,op,args,g⟩::l,e,e',s,hs,h=>by
  have ih:=qeI l
  have go : ∀ {v:AV} {H:Heap} {e1:ES},e.put dst v H=some e1→q43 R PR l e1=some e'→∃ s',q6F R PR l (s.put dst v H)=some s'∧Is e' s':=fun hp hk=>ih _ _ _ (hs.put hp) hk
  unfold q43 at h
  unfold q6F
  split at h
  ·cases h
  ·rename_i hw
   obtain ⟨e1,h1,h2⟩:=q8j h
   simp only[hs.wanted hw,hs.heap]
   exact go h1 h2
  ·rename_i hw
   simp only[hs.wanted hw,hs.evals,hs.heap,hs.rb]
   split at h
   ·split at h
    ·rename_i hv
     obtain ⟨e1,h1,h2⟩:=q8j h
     simp only[hv]
     exact go h1 h2
    ·cases h
   ·split at h
    ·rename_i hv
     obtain ⟨e1,h1,h2⟩:=q8j h
     simp only[hv]
     exact go h1 h2
    ·cases h
   ·split at h
    ·rename_i hv
     obtain ⟨e1,h1,h2⟩:=q3z h
     simp only[hv]
     exact go h1 h2
    ·cases h
   ·split at h
    ·rename_i hv hf
     obtain ⟨e1,h1,h2⟩:=q3z h
     simp only[hv,hf]
     exact go h1 h2
    ·cases h
   ·split at h
    ·rename_i hv
     obtain ⟨e1,h1,h2⟩:=q3z h
     simp only[hv]
     exact go h1 h2
    ·cases h
   ·rw[q2w (q7G 3)] at h
    split at h
    ·rename_i hv
     obtain ⟨e1,h1,h2⟩:=q3z h
     simp only[hv]
     exact go h1 h2
    ·cases h
   ·split at h
    ·rename_i hts
     rw[q2w (q7G 8)] at h
     split at h
     ·rename_i hv
      obtain ⟨e1,h1,h2⟩:=q3z h
      simp only[hts,hv]
      exact go h1 h2
     ·cases h
    ·cases h
   ·split at h
    ·rename_i ha
     rw[q2w (q7G 3)] at h
     split at h
     ·rename_i hv
      obtain ⟨e1,h1,h2⟩:=q3z h
      simp only[ha,hv]
      exact go h1 h2
     ·cases h
    ·cases h
   ·cases h

end
def asc:Nat→List Nat→Nat→Bool
 | _,[],_=>true
 | k,i::l,n=>match Nat.ble k i with
  | true=>match Nat.blt i n with
   | true=>asc (i+1) l n
   | false=>false
  | false=>false
theorem q76 : ∀ (l:List Nat) (k n:Nat),asc k l n=true→∀ i,i∈l→k≤i∧i<n
 | [],_,_,_,i,h=>by cases h
 | j::l,k,n,h,i,hi=>by
  unfold asc at h
  split at h
  ·rename_i h1
   split at h
   ·rename_i h2
    have h1:=qvr.1 h1
    have h2:=qlM.1 h2
    rcases KA.1 hi with rfl | hi
    ·exact ⟨h1,h2⟩
    ·have:=q76 l (j+1) n h i hi
     omega
   ·cases h
  ·cases h
theorem qbO {l l':List Nat} : ∀ (tm:List AV) (k:Nat),(∀ i,k≤i→(l.contains i=l'.contains i))→q0l l k tm=q0l l' k tm
 | [],_,_=>rfl
 | v::tm,k,h=>by rw[q0l,q0l,h k (Kr _),qbO tm (k+1) fun i hi=>h i (by omega)]
theorem q3R {α β:Type} {f g:α→List β} : ∀ {l:List α},(∀ x,x∈l→f x=g x)→l.flatMap f=l.flatMap g
 | [],_=>rfl
 | x::l,h=>by
  simp only[VH,h x (Ku ..),q3R (fun y hy=>h y (Kt _ hy))]
theorem q9Y {f:AV→List Nat} (hf:f .dead=[]) : ∀ (tm:List AV) (k:Nat) (l:List Nat),asc k l (k+tm.length)=true→(q0l l k tm).flatMap f=l.flatMap fun i=>f (tm.getD (i-k) undef)
 | [],k,l,h=>by
  cases l with
  | nil=>rfl
  | cons i l=>
   have:=q76 _ _ _ h i (by simp)
   simp at this
   omega
 | v::tm,k,l,h=>by
  cases l with
  | nil=>
   have : ∀ (tm:List AV) (k:Nat),(q0l [] k tm).flatMap f=[]:=by
    intro tm
    induction tm with
    | nil=>intro k; rfl
    | cons v tm ih=>
     intro k
     rw[q0l,VH,ih]
     simp [hf]
   rw[this]
   rfl
  | cons i l=>
   have hm:=q76 _ _ _ h
   have hi:=hm i (by simp)
   rw[q0l,VH]
   by_cases hik:i=k
   ·subst hik
    unfold asc at h
    rw[show Nat.ble i i=true from qvr.2 (Kr _)] at h
    simp only at h
    split at h
    ·have e1:q0l (i::l) (i+1) tm=q0l l (i+1) tm:=qbO tm (i+1) fun j hj=>by
      rw[K5]
      have:(j == i)=false:=by simp; omega
      rw[this,Vj]
     have ih:=q9Y hf tm (i+1) l (by rw[List.length_cons] at h; rw[show i+1+tm.length=i+(tm.length+1) by omega]; exact h)
     rw[e1,ih,VH]
     have hl2:=q76 _ _ _ h
     congr 1
     ·simp
     ·exact (q3R fun j hj=>by
       have:=(hl2 j hj).1
       rw[show j-i=(j-(i+1))+1 by omega,Vr]).symm
    ·cases h
   ·have hgt:k<i:=by omega
    have hc:(i::l).contains k=false:=by
     cases hb:(i::l).contains k with
     | false=>rfl
     | true=>
      have hk:k∈i::l:=by simpa using hb
      have ha:asc i (i::l) (k+(v::tm).length)=true:=by
       unfold asc at h ⊢
       rw[show Nat.ble i i=true from qvr.2 (Kr _)]
       split at h
       ·exact h
       ·cases h
      have:=(q76 _ _ _ ha k hk).1
      omega
    have ha:asc (k+1) (i::l) (k+1+tm.length)=true:=by
     rw[List.length_cons] at h
     rw[show k+1+tm.length=k+(tm.length+1) by omega]
     unfold asc at h ⊢
     rw[show Nat.ble (k+1) i=true from qvr.2 (by omega)]
     split at h
     ·exact h
     ·cases h
    have ih:=q9Y hf tm (k+1) (i::l) ha
    have hm':=q76 _ _ _ ha
    simp only[hc,Km,if_false,hf,Kh]
    rw[ih]
    exact (q3R fun j hj=>by
     have:=(hm' j hj).1
     rw[show j-k=(j-(k+1))+1 by omega,Vr])
def qgU {β:Type} (f:Nat→Option Nat) (g:Nat→AV):List Nat→(List (Nat × AV)→β)→β
 | [],k=>k []
 | i::l,k=>qro f (g i) fun v=>qgU f g l fun l=>k ((i,v)::l)
theorem qea {β:Type} (f:Nat→Option Nat) (g:Nat→AV) : ∀ (l:List Nat) (k:List (Nat × AV)→β),qgU f g l k=k (l.map fun i=>(i,AV.renN f 6 (g i)))
 | [],k=>rfl
 | i::l,k=>by rw[qgU,qcb,qea f g l]; rfl
def qoq (e:ES) (live:List Nat) (k:ES→Option (Ex × ES)):Option (Ex × ES):=
 match asc 0 live e.nt with
 | false=>none
 | true=>
  q4L q5b (q1M e.heap e.base 4000 ((live.flatMap fun i=>AV.refsN 6 (q3k e.df e.nt e.l i))++(e.heap.take e.base).flatMap Blk.refs) []) fun ks=>
  qqu (e.heap.take e.base++ks.map fun r=>e.heap.getD r .gone) fun kept=>
  q4L (fun p k=>q5b p.1 fun a=>q5b p.2 fun b=>k (a,b)) (q1c ks (e.heap.drop e.base) e.base) fun dr=>
  match q1f (q0V e.base ks) kept && q6U dr kept with
  | true=>
   qgU (q0V e.base ks) (q3k e.df e.nt e.l) live fun l=>
   q94 (q0V e.base ks) (q2K e.heap e.base ks) (q3i dr kept) fun H=>
   k ⟨.dead,e.nt,l,H,e.base,0⟩
  | false=>k e
theorem qe4 {g:Nat→AV} {df:AV} {nt:Nat} : ∀ (live:List Nat) (i:Nat),q3k df nt (live.map fun j=>(j,g j)) i=if live.contains i then g i else if i<nt then df else undef
 | [],i=>by
  simp only[Kl,Vf,Km,if_false]
  unfold q3k
  by_cases h:i<nt
  ·rw[show Nat.blt i nt=true from qlM.2 h,if_pos h]
  ·rw[show Nat.blt i nt=false from by
    cases hb:Nat.blt i nt with
    | false=>rfl
    | true=>exact (h (qlM.1 hb)).elim,if_neg h]
 | j::live,i=>by
  rw[Kd,K5]
  unfold q3k
  by_cases h:i=j
  ·subst h
   rw[show Nat.beq i i=true from Nat.beq_refl i]
   simp
  ·rw[show Nat.beq i j=false from by
    cases hb:Nat.beq i j with
    | false=>rfl
    | true=>exact (h (Nat.eq_of_beq_eq_true hb)).elim]
   simp only
   rw[qe4 live i,show (i == j)=false from by simpa using h,Vj]
theorem qdj (live:List Nat) : ∀ (tm:List AV) (k i:Nat),(q0l live k tm)[i]?=(tm[i]?).map fun v=>if live.contains (k+i) then v else .dead
 | [],k,i=>by simp [q0l]
 | v::tm,k,0=>by simp [q0l]
 | v::tm,k,i+1=>by
  simp only[q0l,KY]
  rw[qdj live tm (k+1) i,show k+1+i=k+(i+1) by omega]
theorem qhq (live:List Nat) : ∀ (tm:List AV) (k:Nat),(q0l live k tm).length=tm.length
 | [],k=>rfl
 | v::tm,k=>by simp [q0l,qhq live tm (k+1)]
theorem qnK {β:Type} (p:Nat × Nat) (k:Nat × Nat→β):q5b p.1 (fun a=>q5b p.2 fun b=>k (a,b))=k p:=by simp [q41]
theorem qhg {e:ES} {s:St} (hs:Is e s) {live:List Nat} {k:ES→Option (Ex × ES)} {r:Ex × ES} (h:qoq e live k=some r) : ∃ e',Is e' (s.norm live)∧k e'=some r:=by
 unfold qoq at h
 split at h
 ·cases h
 rename_i ha
 have hlen:=hs.len
 have hroots:(q0l live 0 s.tmps).flatMap (AV.refsN 6)=live.flatMap fun i=>AV.refsN 6 (q3k e.df e.nt e.l i):=by
  rw[q9Y (f:=AV.refsN 6) rfl s.tmps 0 live (by rw[KS,hlen]; exact ha)]
  exact q3R fun i _=>by rw[Nat.sub_zero,hs.at_ i]
 simp only[q2w q41,qhx,q2w qnK,qea,qaz] at h
 unfold St.norm St.normTm
 rw[hroots,hs.heap,hs.base]
 generalize q1M e.heap e.base 4000 ((live.flatMap fun i=>AV.refsN 6 (q3k e.df e.nt e.l i))++(e.heap.take e.base).flatMap Blk.refs) []=ks at h ⊢
 unfold St.normBy
 simp only[hs.heap,hs.base]
 split at h
 ·rename_i hc
  refine ⟨_,?_,h⟩
  rw[hc]
  refine ⟨rfl,rfl,rfl,by simp [q4l,qhq,hlen],fun i=>?_⟩
  simp only[q4l]
  rw[qe4 live i,Ko,KH,qdj]
  rw[KS]
  have hi:=hs.at_ i
  rw[Ko] at hi
  by_cases hl:i<s.tmps.length
  ·rw[Ki hl] at hi ⊢
   simp only[K8] at hi
   simp only[KM,K8,hi]
   split
   ·rfl
   ·rw[if_pos (by omega)]
    rfl
  ·rw[KQ (by omega)]
   simp only[Option.map_none,Option.getD_none]
   rw[if_neg,if_neg (by omega)]
   intro hcon
   have:=(q76 _ _ _ ha i (by simpa using hcon)).2
   omega
 ·rename_i hc
  refine ⟨_,?_,h⟩
  rw[hc]
  exact hs
def tmE (e:ES):List AV:=(List.range e.nt).map fun i=>q3k e.df e.nt e.l i
def qfn:Nat→List AV→List (Nat × AV)
 | _,[]=>[]
 | i,v::vs=>(i,v)::qfn (i+1) vs
theorem qc6 {df:AV} {nt:Nat} : ∀ (vs:List AV) (k i:Nat),k+vs.length≤nt→q3k df nt (qfn k vs) (k+i)=if h:i<vs.length then vs[i] else (if k+i<nt then df else undef)
 | [],k,i,h=>by
  simp only[qfn,List.length_nil,Nat.not_lt_zero,dite_false]
  unfold q3k
  by_cases h:k+i<nt
  ·rw[show Nat.blt (k+i) nt=true from qlM.2 h,if_pos h]
  ·rw[show Nat.blt (k+i) nt=false from by
    cases hb:Nat.blt (k+i) nt with
    | false=>rfl
    | true=>exact (h (qlM.1 hb)).elim,if_neg h]
 | v::vs,k,0,h=>by
  unfold qfn q3k
  rw[Vs,show Nat.beq k k=true from Nat.beq_refl k]
  simp
 | v::vs,k,i+1,h=>by
  unfold qfn q3k
  rw[show Nat.beq (k+(i+1)) k=false from by
   cases hb:Nat.beq (k+(i+1)) k with
   | false=>rfl
   | true=>have:=Nat.eq_of_beq_eq_true hb; omega]
  simp only
  rw[show k+(i+1)=k+1+i by omega,qc6 vs (k+1) i (by simp at h; omega)]
  simp
theorem Is.tm {e:ES} {s:St} (h:Is e s):s=⟨tmE e,e.heap,e.base,e.rb⟩:=by
 obtain ⟨tm,H,b,rb⟩:=s
 obtain ⟨h1,h2,h3,h4,h5⟩:=h
 simp only at h1 h2 h3 h4
 subst h1
 subst h2
 subst h3
 congr 1
 apply Vw
 intro i
 unfold tmE
 have h5:=h5 i
 simp only at h5
 rw[Ko] at h5
 by_cases hi:i<tm.length
 ·rw[KH,VF (by omega),Ki hi]
  rw[Ki hi] at h5
  simpa using h5
 ·rw[KQ (by omega),KQ (by simp; omega)]
def ofT (df:AV) (s:St):ES:=⟨df,s.tmps.length,qfn 0 s.tmps,s.heap,s.base,s.rb⟩
theorem qus (df:AV) (s:St):Is (ofT df s) s:=⟨rfl,rfl,rfl,rfl,fun i=>by
 have:=qc6 (df:=df) (nt:=s.tmps.length) s.tmps 0 i (by omega)
 rw[KS] at this
 show s.tmps.getD i undef=q3k df s.tmps.length (qfn 0 s.tmps) i
 rw[this,Ko]
 by_cases hi:i<s.tmps.length
 ·rw[dif_pos hi,Ki hi]
  rfl
 ·rw[dif_neg hi,if_neg hi,KQ (by omega)]
  rfl⟩
theorem qbH {live live2:List Nat} : ∀ (tm:List AV) (k:Nat),(∀ i,k≤i→i<k+tm.length→live.contains i=live2.contains i)→q0l live k tm=q0l live2 k tm
 | [],_,_=>rfl
 | v::tm,k,h=>by
  rw[q0l,q0l,qbH tm (k+1) (fun i h1 h2=>h i (by omega) (by simp; omega)),h k (Kr _) (by simp)]
theorem qir (live:List Nat) (s:St):s.norm (live.filter fun i=>Nat.blt i s.tmps.length)=s.norm live:=by
 unfold St.norm
 rw[qbH (live2:=live) s.tmps 0 fun i _ hi=>by
  rw[KS] at hi
  rw[Vd,Vv,Vv,V4]
  exact ⟨fun h=>h.1,fun h=>⟨h,qlM.2 hi⟩⟩]
def qqG (e:ES) (live:List Nat) (k:ES→Option (Ex × ES)):Option (Ex × ES):=
 match q71 live with
 | []=>qoq e live k
 | hs=>(fun e'=>qoq e' (live.filter fun i=>Nat.blt i e'.nt) k) (ofT e.df (hs.foldl St.thawBy ⟨tmE e,e.heap,e.base,e.rb⟩))
theorem qhc {e:ES} {s:St} (hs:Is e s) {live:List Nat} {k:ES→Option (Ex × ES)} {r:Ex × ES} (h:qqG e live k=some r) : ∃ e',Is e' (s.head live)∧k e'=some r:=by
 unfold qqG at h
 split at h
 ·rename_i hz
  obtain ⟨e',h1,h2⟩:=qhg hs h
  exact ⟨e',by rw[q9R hz]; exact h1,h2⟩
 ·rw[←hs.tm] at h
  obtain ⟨e',h1,h2⟩:=qhg (qus e.df _) h
  refine ⟨e',?_,h2⟩
  have:=qir live ((q71 live).foldl St.thawBy s)
  unfold St.head
  rw[←this]
  exact h1
def q81 (a b:ES):Nat→Bool
 | 0=>true
 | n+1=>match AV.same 100 (q3k a.df a.nt a.l n) (q3k b.df b.nt b.l n) with
  | true=>q81 a b n
  | false=>false
theorem q8Q {a b:ES} : ∀ (n:Nat),q81 a b n=true→∀ i,i<n→q3k a.df a.nt a.l i=q3k b.df b.nt b.l i
 | 0,_,i,hi=>absurd hi (Nat.not_lt_zero i)
 | n+1,h,i,hi=>by
  unfold q81 at h
  split at h
  ·rename_i h1
   by_cases hin:i=n
   ·subst hin
    exact AV.same_eq _ _ _ h1
   ·exact q8Q n h i (by omega)
  ·cases h
def ES.same (a b:ES):Bool:=decide (a.nt=b.nt) && q81 a b a.nt && q6q Blk.same a.heap b.heap && decide (a.base=b.base) && decide (a.rb=b.rb)
theorem Is.unique {a b:ES} {s t:St} (hs:Is a s) (ht:Is b t) (h:ES.same a b=true):s=t:=by
 unfold ES.same at h
 simp only[Kk,decide_eq_true_eq] at h
 obtain ⟨⟨⟨⟨h1,h2⟩,h3⟩,h4⟩,h5⟩:=h
 have h3:=q4H Blk.same_eq _ _ h3
 obtain ⟨tm,H,bs,rb⟩:=s
 obtain ⟨tm',H',bs',rb'⟩:=t
 have e1:=hs.heap
 have e2:=ht.heap
 have e3:=hs.base
 have e4:=ht.base
 have e5:=hs.rb
 have e6:=ht.rb
 have e7:=hs.len
 have e8:=ht.len
 have e9:=hs.at_
 have e10:=ht.at_
 simp only at e1 e2 e3 e4 e5 e6 e7 e8 e9 e10
 have:tm=tm':=Vw fun i=>by
  by_cases hi:i<tm.length
  ·have a1:=e9 i
   have a2:=e10 i
   rw[Ko,Ki hi] at a1
   rw[Ko,Ki (by omega)] at a2
   rw[Ki hi,Ki (by omega)]
   simp only[K8] at a1 a2
   rw[a1,a2,q8Q _ h2 i (by omega)]
  ·rw[KQ (by omega),KQ (by omega)]
 rw[this,e1,e2,e3,e4,e5,e6,h3,h4,h5]
def qmQ (e:ES) (k:Nat):ES:=⟨e.df,e.nt,e.l,e.heap++List.replicate k .resv,e.base,e.heap.length⟩
theorem qgs {e:ES} {s:St} (h:Is e s) (k:Nat):Is (qmQ e k) (s.keep k):=⟨by simp [qmQ,St.keep,h.heap],h.base,by simp [qmQ,St.keep,h.heap],h.len,h.at_⟩
section
variable (R:Nat→List AV→Heap→Option (AV × Heap)) (PR:Nat→List AV→Option AV)
def hK (e:ES) (k:ES→Option (Ex × ES)):Option (Ex × ES):=qtX 2 e.heap fun H=>q5b e.rb fun rb=>k ⟨e.df,e.nt,e.l,H,e.base,rb⟩
theorem qwj (e:ES) (k:ES→Option (Ex × ES)):hK e k=k e:=by simp [hK,qo0,q41]
def qgA:Nat→ACode→ES→Option (Ex × ES)
 | 0,_,_=>none
 | n+1,c,e=>
  match c with
  | .skip=>some (.normal,e)
  | .ops l=>(match q43 R PR l e with | some t=>some (.normal,t) | none=>none)
  | .draw k []=>none
  | .draw k (l::ls)=>hK (qmQ e k) fun e=>(match q43 R PR l e with
   | some t=>(match ls.all (fun l=>match q43 R PR l e with | some u=>ES.same u t | none=>false) with
    | true=>some (.normal,⟨t.df,t.nt,t.l,t.heap,t.base,0⟩)
    | false=>none)
   | none=>none)
  | .seq a b=>(match qgA n a e with
   | some (.normal,t)=>qgA n b t
   | r=>r)
  | .cond x a b=>(match e.eval x with
   | .bool true=>qgA n a e
   | .bool false=>qgA n b e
   | _=>none)
  | .block id b=>(match qgA n b e with
   | some (x,t)=>some (x.out id,t)
   | none=>none)
  | .scope b=>qgA n b e
  | .loop live b=>(match qqG e live (qgA n b) with
   | some (.normal,t)=>qgA n (.loop live b) t
   | r=>r)
  | .exit id=>some (.exit id,e)
  | .ret=>some (.ret,e)
end
section
variable {C:Ctx} {R:Nat→List AV→Heap→Option (AV × Heap)} {PR:Nat→List AV→Option AV}
theorem q86 (hR : ∀ f a H v H',R f a H=some (v,H')→BS C (.run f a H v H')) (hP : ∀ f ts v,PR f ts=some v→BS C (.prun f ts v)) : ∀ (n:Nat) (c:ACode) (e:ES) (s:St) (x:Ex) (e':ES),Is e s→qgA R PR n c e=some (x,e')→∃ s',BS C (.exec c s x s')∧Is e' s'
 | 0,_,_,_,_,_,_,h=>by cases h
 | n+1,c,e,s,x,e',hs,h=>by
  have ih:=q86 hR hP n
  have io : ∀ {l:List AOper} {e e':ES} {s:St},Is e s→q43 R PR l e=some e'→∃ s',BS C (.ops l s s')∧Is e' s':=fun hs h=>by
   obtain ⟨s',h1,h2⟩:=qeI _ _ _ _ hs h
   exact ⟨s',qaf hR hP _ _ _ h1,h2⟩
  unfold qgA at h
  split at h
  ·cases h
   exact ⟨s,.skip s,hs⟩
  ·split at h
   ·rename_i ho
    cases h
    obtain ⟨s',h1,h2⟩:=io hs ho
    exact ⟨s',.ops h1,h2⟩
   ·cases h
  ·cases h
  ·rename_i k l ls
   rw[qwj] at h
   split at h
   ·rename_i t ho
    split at h
    ·rename_i hall
     cases h
     obtain ⟨s1,h1,h2⟩:=io (qgs hs k) ho
     refine ⟨{ s1 with rb:=0 },.draw (by simp) fun l' hl'=>?_,⟨h2.heap,h2.base,rfl,h2.len,h2.at_⟩⟩
     rcases KA.1 hl' with rfl | hl'
     ·exact h1
     ·have:=Kp.1 hall l' hl'
      split at this
      ·rename_i u hu
       obtain ⟨s2,g1,g2⟩:=io (qgs hs k) hu
       rw[←g2.unique h2 this]
       exact g1
      ·cases this
    ·cases h
   ·cases h
  ·split at h
   ·rename_i t ha
    obtain ⟨s1,h1,h2⟩:=ih _ _ _ _ _ hs ha
    obtain ⟨s2,g1,g2⟩:=ih _ _ _ _ _ h2 h
    exact ⟨s2,.seq h1 g1,g2⟩
   ·rename_i hne
    obtain ⟨s1,h1,h2⟩:=ih _ _ _ _ _ hs h
    exact ⟨s1,.seqE h1 fun he=>by
     subst he
     exact hne _ h,h2⟩
  ·rename_i y a b
   split at h
   ·rename_i hx
    obtain ⟨s1,h1,h2⟩:=ih _ _ _ _ _ hs h
    exact ⟨s1,.condT (by rw[hs.eval y,hx]) h1,h2⟩
   ·rename_i hx
    obtain ⟨s1,h1,h2⟩:=ih _ _ _ _ _ hs h
    exact ⟨s1,.condF (by rw[hs.eval y,hx]) h1,h2⟩
   ·cases h
  ·split at h
   ·rename_i ha
    cases h
    obtain ⟨s1,h1,h2⟩:=ih _ _ _ _ _ hs ha
    exact ⟨s1,.block h1,h2⟩
   ·cases h
  ·obtain ⟨s1,h1,h2⟩:=ih _ _ _ _ _ hs h
   exact ⟨s1,.scope h1,h2⟩
  ·rename_i live b
   split at h
   ·rename_i t ha
    obtain ⟨e1,g0,g1⟩:=qhc hs ha
    obtain ⟨s1,h1,h2⟩:=ih _ _ _ _ _ g0 g1
    obtain ⟨s2,g1,g2⟩:=ih _ _ _ _ _ h2 h
    exact ⟨s2,.loop h1 g1,g2⟩
   ·rename_i hne
    obtain ⟨e1,g0,g1⟩:=qhc hs h
    obtain ⟨s1,h1,h2⟩:=ih _ _ _ _ _ g0 g1
    exact ⟨s1,.loopE h1 fun he=>by
     subst he
     exact hne _ h,h2⟩
  ·cases h
   exact ⟨s,.exit _ s,hs⟩
  ·cases h
   exact ⟨s,.ret s,hs⟩
end
def qfz:Nat→List AV→List (Nat × AV)
 | _,[]=>[]
 | i,v::vs=>(i,v)::qfz (i+1) vs
def qcZ (e:ES):ResV→Option AV
 | .tmp i=>some (q3k e.df e.nt e.l i)
 | .cell i sz=>ROp.exec (.load sz) [q3k e.df e.nt e.l i] e.heap
def q9b (res:List ResV) (e:ES):Option AV:=
 match q1L (qcZ e) res with
 | some [v]=>some v
 | some vs=>some (.tup vs)
 | none=>none
theorem qa3 {e:ES} {s:St} (h:Is e s) (res:List ResV):results res s=q9b res e:=by
 have:q6v s=qcZ e:=funext fun r=>by
  cases r with
  | tmp i=>simp only[q6v,qcZ,h.at_ i]
  | cell i sz=>simp only[q6v,qcZ,h.at_ i,h.heap]
 unfold results q9b
 rw[this]
 rfl
theorem qbT {df:AV} {nt:Nat} : ∀ (vs:List AV) (k i:Nat),k+vs.length≤nt→q3k df nt (qfz k vs) (k+i)=if h:i<vs.length then vs[i] else (if k+i<nt then df else undef)
 | [],k,i,_=>by
  simp only[qfz,List.length_nil,Nat.not_lt_zero,dite_false]
  unfold q3k
  by_cases h:k+i<nt
  ·rw[qlM.2 h,if_pos h]
  ·rw[show Nat.blt (k+i) nt=false from by
    cases hb:Nat.blt (k+i) nt with
    | false=>rfl
    | true=>exact (h (qlM.1 hb)).elim,if_neg h]
 | v::vs,k,0,h=>by
  unfold qfz q3k
  rw[Vs,show Nat.beq k k=true from Nat.beq_refl k]
  simp
 | v::vs,k,i+1,h=>by
  unfold qfz q3k
  rw[show Nat.beq (k+(i+1)) k=false from by
   cases hb:Nat.beq (k+(i+1)) k with
   | false=>rfl
   | true=>have:=Nat.eq_of_beq_eq_true hb; omega]
  simp only
  rw[show k+(i+1)=k+1+i by omega,qbT vs (k+1) i (by simp at h; omega)]
  simp
def qhp (fn:AFn) (args:List AV) (H:Heap) (k:ES→Option (Ex × ES)):Option (Ex × ES):=
 q5b args.length fun n=>q5b (n+(fn.nt-n)) fun nt=>q5b H.length fun b=>q4L (fun p k=>q5b p.1 fun i=>k (i,p.2)) (qfz 0 args) fun l=>k ⟨undef,nt,l,H,b,0⟩
theorem qdq (fn:AFn) (args:List AV) (H:Heap) (k:ES→Option (Ex × ES)) : ∃ e,Is e (enter fn args H)∧qhp fn args H k=k e:=by
 refine ⟨⟨undef,args.length+(fn.nt-args.length),qfz 0 args,H,H.length,0⟩,⟨rfl,rfl,rfl,by simp [enter],fun i=>?_⟩,?_⟩
 ·have:=qbT (df:=undef) (nt:=args.length+(fn.nt-args.length)) args 0 i (by omega)
  rw[KS] at this
  rw[this,Ko]
  simp only[enter]
  by_cases h:i<args.length
  ·rw[dif_pos h,KG h,Ki h]
   rfl
  ·rw[dif_neg h,KJ (by omega),List.getElem?_replicate]
   split<;>split<;>rfl
 ·unfold qhp
  simp only[q41]
  rw[q2w fun p k=>rfl]
section
variable (code:Nat→Option AFn) (clR clP:Nat→Option (Nat × Nat)) (orP:Nat→List AV→Option AV)
def evH:Nat→(Nat→List AV→Heap→Option (AV × Heap)) × (Nat→List AV→Option AV)
 | 0=>(fun _ _ _=>none,fun _ _=>none)
 | n+1=>
  (fun f args H=>
   match code f with
   | some fn=>(match qhp fn args H (qgA (evH n).1 (evH n).2 n fn.body) with
    | some (e,t)=>(match qw7 e with
     | true=>(match q9b fn.res t with
      | some v=>(match q7P H.length v t.heap with | ⟨tm,h,_,_⟩=>some (tm.getD 0 .dead,h))
      | none=>none)
     | false=>none)
    | none=>none)
   | none=>(match clR f,args with
    | some p,[x]=>q2D p.1 p.2 (H++[.gone]) [.snil p.1,x]
    | _,_=>none),
  fun f ts=>
   match orP f ts with
   | some v=>some v
   | none=>
    match code f with
    | some fn=>(match qhp fn ts [] (qgA (evH n).1 (evH n).2 n fn.body) with
     | some (e,t)=>(match qw7 e with
      | true=>(match q9b fn.res t with
       | some u=>frz t.heap 6 u
       | none=>none)
      | false=>none)
     | none=>none)
    | none=>(match clP f,ts with
     | some p,[.tsl n l]=>if n=p.1∧l.length≤lim∧l.length * p.2≤2^40 then some (.tsl p.1 l) else none
     | _,_=>none))
end
structure Fits (C:Ctx) (code:Nat→Option AFn) (clR clP:Nat→Option (Nat × Nat)):Prop where
 code : ∀ f fn,code f=some fn→C.code f=some fn
 prim : ∀ f p x H v H',clR f=some p→q2D p.1 p.2 (H++[.gone]) [.snil p.1,x]=some (v,H')→C.prim f [x] H v H'
 pprim : ∀ f p l,clP f=some p→l.length≤lim→l.length * p.2≤2^40→C.pprim f [.tsl p.1 l] (.tsl p.1 l)
theorem qpt (code:Nat→Option AFn) (clR clP:Nat→Option (Nat × Nat)):Fits (qac code clR clP) code clR clP:=
 ⟨fun _ _ h=>h,fun f p x H v H' h1 h2=>⟨p,x,h1,rfl,h2⟩,fun f p l h1 h2 h3=>⟨p,l,h1,rfl,h2,h3,rfl⟩⟩
theorem qdw {C:Ctx} (code:Nat→Option AFn) (clR clP:Nat→Option (Nat × Nat)) (hF:Fits C code clR clP) (orP:Nat→List AV→Option AV) (hor : ∀ f ts v,orP f ts=some v→q0m C f ts v) : ∀ (n:Nat),(∀ f a H v H',(evH code clR clP orP n).1 f a H=some (v,H')→BS C (.run f a H v H'))∧∀ f ts v,(evH code clR clP orP n).2 f ts=some v→BS C (.prun f ts v)
 | 0=>⟨fun f a H v H' (h:none=some (v,H'))=>by (cases h),fun f ts v (h:none=some v)=>by (cases h)⟩
 | n+1=>by
  obtain ⟨ih1,ih2⟩:=qdw code clR clP hF orP hor n
  refine ⟨fun f a H v H' h=>?_,fun f ts v h=>?_⟩
  ·simp only[evH] at h
   split at h
   ·rename_i fn hf
    split at h
    ·rename_i e t hc
     split at h
     ·rename_i he
      split at h
      ·rename_i u hu
       cases h
       obtain ⟨e0,g0,g1⟩:=qdq fn a H (qgA (evH code clR clP orP n).1 (evH code clR clP orP n).2 n fn.body)
       rw[g1] at hc
       obtain ⟨s1,h1,h2⟩:=q86 ih1 ih2 _ _ _ _ _ _ g0 hc
       rw[←qa3 h2] at hu
       have:=BS.run (hF.code _ _ hf) h1 (qjY he) hu
       rw[h2.heap] at this
       exact this
      ·cases h
     ·cases h
    ·cases h
   ·split at h
    ·rename_i p x hp
     exact .prim (hF.prim _ _ _ _ _ _ hp h)
    ·cases h
  ·simp only[evH] at h
   split at h
   ·rename_i u hu
    cases h
    exact hor f ts _ hu
   ·split at h
    ·rename_i fn hf
     split at h
     ·rename_i e t hc
      split at h
      ·rename_i he
       split at h
       ·rename_i u hu
        obtain ⟨e0,g0,g1⟩:=qdq fn ts [] (qgA (evH code clR clP orP n).1 (evH code clR clP orP n).2 n fn.body)
        rw[g1] at hc
        obtain ⟨s1,h1,h2⟩:=q86 ih1 ih2 _ _ _ _ _ _ g0 hc
        rw[←qa3 h2] at hu
        exact .prun (hF.code _ _ hf) h1 (qjY he) hu (by rw[h2.heap]; exact h)
       ·cases h
      ·cases h
     ·cases h
    ·split at h
     ·rename_i p m l hp _
      split at h
      ·rename_i hc
       obtain ⟨rfl,h2,h3⟩:=hc
       cases h
       exact .pprim (hF.pprim _ _ _ hp h2 h3)
      ·cases h
     ·cases h
theorem qjJ {C:Ctx} {code:Nat→Option AFn} {clR clP:Nat→Option (Nat × Nat)} (hF:Fits C code clR clP) (orP:Nat→List AV→Option AV) (hor : ∀ f ts v,orP f ts=some v→q0m C f ts v) (n:Nat) {f:Nat} {ts:List AV} {v:AV} (h:(evH code clR clP orP n).2 f ts=some v):q0m C f ts v:=(qdw code clR clP hF orP hor n).2 f ts v h
end Ago
namespace Ago
def orT:List (Nat × List AV × AV)→Nat→List AV→Option AV
 | [],_,_=>none
 | x::l,f,ts=>match Nat.beq f x.1 with
  | true=>match q6q (AV.same 100) ts x.2.1 with
   | true=>some x.2.2
   | false=>orT l f ts
  | false=>orT l f ts
inductive OrOk (C:Ctx):List (Nat × List AV × AV)→Prop
 | nil:OrOk C []
 | cons {f:Nat} {ts:List AV} {v:AV} {l:List (Nat × List AV × AV)}:q0m C f ts v→OrOk C l→OrOk C ((f,ts,v)::l)
theorem OrOk.get {C:Ctx} {l:List (Nat × List AV × AV)} (h:OrOk C l) : ∀ f ts v,orT l f ts=some v→q0m C f ts v:=by
 induction h with
 | nil=>
  intro f ts v h
  cases h
 | cons hp _ ih=>
  intro f ts v h
  unfold orT at h
  split at h
  ·rename_i h1
   split at h
   ·rename_i h2
    cases h
    rw[Nat.eq_of_beq_eq_true h1,q4H (AV.same_eq 100) _ _ h2]
    exact hp
   ·exact ih _ _ _ h
  ·exact ih _ _ _ h
def qwo (o:Option AV) (v:AV):Bool:=match o with
 | some u=>AV.same 100 u v
 | none=>false
theorem qp2 {o:Option AV} {v:AV} (h:qwo o v=true):o=some v:=by
 unfold qwo at h
 split at h
 ·rw[AV.same_eq _ _ _ h]
 ·cases h
theorem q78 {C:Ctx} {code:Nat→Option AFn} {clR clP:Nat→Option (Nat × Nat)} (hF:Fits C code clR clP) {l:List (Nat × List AV × AV)} (hl:OrOk C l) (n:Nat) {f:Nat} {ts:List AV} {v:AV} (h:qwo ((evH code clR clP (orT l) n).2 f ts) v=true):q0m C f ts v:=qjJ hF (orT l) hl.get n (qp2 h)
end Ago
