/- Steps of the model draw no less: of a call that a contract tells, the world behind it has drawn no less. -/
import Derived.Test.YtgfkbpjgfdgfbaaGreatDoorMachC
import Derived.Calls
import Derived.RunT
import Derived.StepT
import Derived.Test.YtgfkbpjgfdgfbaaGreatDoorMachD
import Derived.Test.YtgfkbpjgfdgfbaaGreatDoorMachG
import Derived.Shelf.Small.Strs
import Derived.Test.YtgfkbpjgfdgfbaaGreatDoorMachE
import Derived.Shelf.Strings.Repeat
import Derived.Shelf.Strconv.Itoa3
import Derived.Lib.LaidTab
set_option linter.unusedSimpArgs false
set_option linter.unusedVariables false
namespace Ago
open Go
end Ago
/- The library's comparison of strings, taken as it is. -/
namespace Ago
open Go Go.Proofs Go.Shelf
variable {uT:Unit} [TabC uT]
section
variable {P:Program} {fid:FuncId→Option Nat} {pf:Nat→Bool}
end
end Ago
/- Functions that are taken as they are, each by what it answers: strings.Repeat, the comparison of strings. -/
namespace Ago
open Go Go.Proofs Go.Shelf
variable {uT:Unit} [TabC uT]

/-- A machine with such functions. -/
def funCtx (C:Ctx) (pp:Nat→Option (List AV→Option AV)):Ctx where
  code:=C.code
  prim:=C.prim
  pprim f ts v:=C.pprim f ts v∨∃ F, pp f=some F∧F ts=some v
theorem fits_fun {C:Ctx} {pp:Nat→Option (List AV→Option AV)} {code:Nat→Option AFn} {clR clP:Nat→Option (Nat × Nat)} (h:Fits C code clR clP):Fits (funCtx C pp) code clR clP:=
  ⟨h.code, h.prim, fun f p l h1 h2 h3=>Or.inl (h.pprim f p l h1 h2 h3)⟩
theorem fun_run {C:Ctx} {pp:Nat→Option (List AV→Option AV)} {f:Nat} {F:List AV→Option AV} {ts:List AV} {v:AV} (hf:pp f=some F) (h:F ts=some v):PRun (funCtx C pp) f ts v:=.pprim (Or.inr ⟨F, hf, h⟩)
section
variable {P:Program} {fid:FuncId→Option Nat} {pf:Nat→Bool}
def FunAt (P:Program) (fid:FuncId→Option Nat) (f:Nat) (F:List AV→Option AV):Prop:=∀ ts v, F ts=some v→SimPure P fid f ts v
theorem funCtx_ok {C:Ctx} {pp:Nat→Option (List AV→Option AV)} (hC:CtxOk P fid pf C) (h : ∀ f F, pp f=some F→C.code f=none∧FunAt P fid f F∧∀ ts v, ¬ C.pprim f ts v):CtxOk P fid pf (funCtx C pp):=by
  refine ⟨hC.fids, hC.coded, hC.prim, fun f ts v hp=>?_⟩
  rcases hp with hp | ⟨F, hf, hp⟩
  · obtain ⟨k1, k2, k3⟩:=hC.pprim _ _ _ hp
    refine ⟨k1, k2, fun v2 hp2=>?_⟩
    rcases hp2 with hp2 | ⟨F, hf, _⟩
    · exact k3 _ hp2
    · exact ((h f F hf).2.2 _ _ hp).elim
  · refine ⟨(h f F hf).1, (h f F hf).2.1 ts v hp, fun v2 hp2=>?_⟩
    rcases hp2 with hp2 | ⟨F2, hf2, hp2⟩
    · exact ((h f F hf).2.2 _ _ hp2).elim
    · rw[hf] at hf2
      cases hf2
      rw[hp] at hp2
      cases hp2
      rfl

theorem mem_bel {fid:FuncId→Option Nat} {M:Mem} {w w':World} (hM : ∀ b o u, M b o=some u→w.cell? ⟨b, o, none⟩=some u) (hb:Bel w.heap.size w w') : ∀ b o u, M b o=some u→w'.cell? ⟨b, o, none⟩=some u:=fun b o u hm=>by
  have h1:=hM b o u hm
  have h2:=World.block_lt_of_cell? w _ h1
  rw[←h1]
  exact RowKit.Below.cell hb.toBelow h2
end
end Ago
/- strconv.Itoa, taken as it is, where its table is known to be laid. -/
namespace Ago
open Go Go.Proofs Go.Shelf Go.Sort

/-- The powers of ten are known, below. -/
abbrev tabOf (P:Program):TabC () where
  ok B w := Lib.TabIs P w "internal/strconv.uint64pow10" .u64 Lib.pow10Tab ∧ ∀ g, P.globalNamed "internal/strconv.uint64pow10" = some g → g < B
  mono:=fun {B w w'} h hb=>by
    refine ⟨?_, h.2⟩
    have h1:=h.1
    unfold Lib.TabIs World.var? at h1 ⊢
    cases hg : P.globalNamed "internal/strconv.uint64pow10" with
    | none=>rw[hg] at h1; cases h1
    | some g=>
      rw[hg, Option.bind_some] at h1
      rw[Option.bind_some, hb.toBelow.block g (h.2 g hg)]
      exact h1
  up:=fun {B B' w} h hB=>⟨h.1, fun g hg=>Nat.lt_of_lt_of_le (h.2 g hg) hB⟩

def itoaF:List AV→Option AV
  | [.int .i64 (.ofNat n)]=>if n<4611686018427387904 then some (.str (Lib.decDigits n)) else none
  | _=>none
theorem itoaF_eq (n:Nat) (h:n<4611686018427387904):itoaF [.int .i64 n]=some (.str (Lib.decDigits n)):=by
  show (if n<4611686018427387904 then some (AV.str (Lib.decDigits n)) else none)=_
  rw[if_pos h]
def ItoaAt (P:Program) (fid:FuncId→Option Nat) (f:Nat):Prop:=∀ g, fid g=some f→∃ ρ, LaysM.n171 P ρ∧ρ.f 171=g
section
variable {P:Program} {fid:FuncId→Option Nat}
theorem bel_grown (w:World) (k:Nat) (os:Array Obj):Bel w.heap.size w (grow (w.drewN k) os):=by
  refine ⟨⟨rfl, rfl, rfl, ?_, fun b hb=>?_⟩, Nat.le_add_right _ _⟩
  · show w.heap.size≤(w.heap++os).size
    rw[Array.size_append]
    exact Nat.le_add_right _ _
  · show (w.heap++os)[b]?=w.heap[b]?
    rw[Array.getElem?_append_left hb]
theorem itoa_at {f:Nat} (h:ItoaAt P fid f) : @FunAt () (tabOf P) P fid f itoaF:=by
  intro ts v hv g hg M φ us w hargs hM htb
  obtain ⟨ρ, L, rfl⟩:=h g hg
  unfold itoaF at hv
  split at hv
  · rename_i n
    split at hv
    · rename_i hn
      cases hv
      obtain ⟨u0, rfl⟩ : ∃ u0, us = #[u0]:=by
        have h1:=hargs.1
        simp at h1
        obtain ⟨l⟩:=us
        match l, h1 with
        | [a], _=>exact ⟨a, rfl⟩
      have h0:VRel fid M [] φ (.int .i64 (Int.ofNat n)) u0:=hargs.head
      cases h0 with
      | int _ _=>
        refine (Any.strconv_Itoa L (Int.ofNat n) (by show (-9223372036854775808:Int)≤(n:Int); omega) (by show (n:Int)≤9223372036854775807; omega) w htb.1).mono fun e w' he=>?_
        obtain ⟨rfl, k, os, rfl⟩:=he
        refine ⟨_, rfl, M, ?_, fun _ _ _ h=>h, fun _ _ _ h _=>h, mem_bel (fid:=fid) hM (bel_grown w k os), bel_grown w k os⟩
        exact .str _ _ (by rw[show (Int.ofNat n)=(n:Int) from rfl, Lib.itoa_nonneg])
    · cases hv
  · cases hv
end
/-- The number that digits say. -/
def valD (l:List UInt8):Nat:=l.foldl (fun a c=>a * 10+(c.toNat-48)) 0
theorem valD_snoc (l:List UInt8) (c:UInt8):valD (l++[c])=valD l * 10+(c.toNat-48):=by
  unfold valD
  rw[List.foldl_append]
  rfl
theorem dig_nat {d:Nat} (h:d<10):(UInt8.ofNat (48+d)).toNat=48+d:=by
  rw[UInt8.toNat_ofNat']
  exact Nat.mod_eq_of_lt (by omega)
theorem valD_dec (n:Nat):valD (Lib.decDigits n)=n∧∀ c, c∈Lib.decDigits n→c≠44:=by
  induction n using Nat.strongRecOn with
  | _ n ih=>
    rw[Lib.decDigits]
    by_cases h:n<10
    · rw[dif_pos h]
      refine ⟨?_, fun c hc=>?_⟩
      · show 0 * 10+((UInt8.ofNat (48+n)).toNat-48)=n
        rw[dig_nat h]
        omega
      · rw[List.mem_singleton.1 hc]
        intro e
        have:=congrArg UInt8.toNat e
        rw[dig_nat h] at this
        have h44:(44:UInt8).toNat=44:=rfl
        omega
    · rw[dif_neg h]
      obtain ⟨h1, h2⟩:=ih (n / 10) (by omega)
      have hd:=dig_nat (d:=n % 10) (by omega)
      refine ⟨?_, fun c hc=>?_⟩
      · rw[valD_snoc, h1, hd]
        omega
      · rcases List.mem_append.1 hc with hc | hc
        · exact h2 c hc
        · rw[List.mem_singleton.1 hc]
          intro e
          have:=congrArg UInt8.toNat e
          rw[hd] at this
          have h44:(44:UInt8).toNat=44:=rfl
          omega
theorem dec_inj {a b:Nat} (h:Lib.decDigits a=Lib.decDigits b):a=b:=by rw[←(valD_dec a).1, h, (valD_dec b).1]
theorem dec_len (n:Nat) : ∀ k, n<10^(k+1)→(Lib.decDigits n).length≤k+1:=by
  intro k
  induction k generalizing n with
  | zero=>
    intro h
    rw[Lib.decDigits, dif_pos (by simpa using h)]
    exact Nat.le_refl _
  | succ k ih=>
    intro h
    rw[Lib.decDigits]
    split
    · simp
    · have h2:n / 10<10^(k+1):=by
        rw[Nat.pow_succ] at h
        exact Nat.div_lt_of_lt_mul (by rw[Nat.mul_comm]; exact h)
      have:=ih (n / 10) h2
      rw[List.length_append, List.length_singleton]
      omega
end Ago
/- strconv.Itoa for the kernel: its digits by a count of steps. -/
namespace Ago
open Go Go.Proofs Go.Shelf Go.Sort
def decG:Nat→Nat→List UInt8
  | 0, _=>[]
  | k+1, n=>if n<10 then [UInt8.ofNat (48+n)] else decG k (n / 10)++[UInt8.ofNat (48+n % 10)]
theorem decG_eq : ∀ (k n:Nat), n<10^(k+1)→decG (k+1) n=Lib.decDigits n
  | 0, n, h=>by
    rw[decG, Lib.decDigits, if_pos (by simpa using h), dif_pos (by simpa using h)]
  | k+1, n, h=>by
    rw[decG, Lib.decDigits]
    by_cases hn:n<10
    · rw[if_pos hn, dif_pos hn]
    · rw[if_neg hn, dif_neg hn, decG_eq k (n / 10) (by
        rw[Nat.pow_succ] at h
        exact Nat.div_lt_of_lt_mul (by rw[Nat.mul_comm]; exact h))]
def itoaG:List AV→Option AV
  | [.int .i64 (.ofNat n)]=>if n<1000000 then some (.str (decG 6 n)) else none
  | _=>none
theorem itoaG_eq {ts:List AV} {v:AV} (h:itoaG ts=some v):itoaF ts=some v:=by
  unfold itoaG at h
  split at h
  · rename_i n
    split at h
    · rename_i hn
      cases h
      rw[decG_eq 5 n (by simpa using hn)]
      exact itoaF_eq n (by omega)
    · cases h
  · cases h
def orI (f0:Nat) (l:List (Nat × List AV × AV)) (f:Nat) (ts:List AV):Option AV:=
  match Nat.beq f f0 with
  | true=>itoaG ts
  | false=>orT l f ts
/-- A call of known arguments. -/
theorem prun_tabI {C:Ctx} {pp:Nat→Option (List AV→Option AV)} {f0:Nat} (hp:pp f0=some itoaF) {code:Nat→Option AFn} {clR clP:Nat→Option (Nat × Nat)} (hF:Fits (funCtx C pp) code clR clP) {l:List (Nat × List AV × AV)} (hl:OrOk (funCtx C pp) l) (n:Nat) {f:Nat} {ts:List AV} {v:AV}
    (h:isIt ((evH code clR clP (orI f0 l) n).2 f ts) v=true):PRun (funCtx C pp) f ts v:=
  prun_fast hF (orI f0 l) (fun f ts v h=>by
    unfold orI at h
    split at h
    · rename_i he
      rw[Nat.eq_of_beq_eq_true he]
      exact fun_run hp (itoaG_eq h)
    · exact hl.get _ _ _ h) n (isIt_eq h)
end Ago
