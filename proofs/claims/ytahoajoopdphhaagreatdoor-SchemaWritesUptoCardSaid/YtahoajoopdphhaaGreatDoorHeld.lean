/- The functions of the program,compiled: those of the table,and the others as they are compiled. -/
import Derived.Test.YtahoajoopdphhaaGreatDoorRows
import Derived.Test.YtahoajoopdphhaaGreatDoorMachD
import Derived.Test.YtahoajoopdphhaaGreatDoorMachE
import Derived.Test.YtahoajoopdphhaaGreatDoorMachH
import Derived.Test.YtahoajoopdphhaaGreatDoorMachJ
import Derived.Test.YtahoajoopdphhaaGreatDoorCodeN
import Derived.Test.YtahoajoopdphhaaGreatDoorShelf
set_option linter.unusedSimpArgs false
set_option linter.unusedVariables false
set_option maxRecDepth 100000
set_option maxHeartbeats 8000000
namespace Go.Proofs.YtahoajoopdphhaaGreatDoor
open Ago
abbrev CA (p:Nat × Nat):Prop:=CodedAt Tryz.prog (q2B fids) pf qhM p
theorem qgE:q4M Tryz.prog (q2B fids) pf 216 (11,104):=fun g hg=>by
  have h:=q1q hg
  have e:g=187:=by simpa [fids] using h
  subst e
  exact ⟨Tryz.f187,23,92,_,_,_,_,_,_,_,_,_,_,_,Tryz.func187,by kernel_rfl,rfl,rfl,rfl,by kernel_rfl,rfl,by kernel_rfl,rfl,rfl,rfl,by kernel_rfl,by kernel_rfl⟩
theorem qhb:q4M Tryz.prog (q2B fids) pf 518 (13,168):=fun g hg=>by
  have h:=q1q hg
  have e:g=189:=by simpa [fids] using h
  subst e
  exact ⟨Tryz.f189,29,45,_,_,_,_,_,_,_,_,_,_,_,Tryz.func189,by kernel_rfl,rfl,rfl,rfl,by kernel_rfl,rfl,by kernel_rfl,rfl,rfl,rfl,by kernel_rfl,by kernel_rfl⟩
theorem qhe:q4M Tryz.prog (q2B fids) pf 519 (17,232):=fun g hg=>by
  have h:=q1q hg
  have e:g=190:=by simpa [fids] using h
  subst e
  exact ⟨Tryz.f190,30,71,_,_,_,_,_,_,_,_,_,_,_,Tryz.func190,by kernel_rfl,rfl,rfl,rfl,by kernel_rfl,rfl,by kernel_rfl,rfl,rfl,rfl,by kernel_rfl,by kernel_rfl⟩
theorem qh8:q4M Tryz.prog (q2B fids) pf 520 (15,208):=fun g hg=>by
  have h:=q1q hg
  have e:g=191:=by simpa [fids] using h
  subst e
  exact ⟨Tryz.f191,31,33,_,_,_,_,_,_,_,_,_,_,_,Tryz.func191,by kernel_rfl,rfl,rfl,rfl,by kernel_rfl,rfl,by kernel_rfl,rfl,rfl,rfl,by kernel_rfl,by kernel_rfl⟩
theorem qgz:q4M Tryz.prog (q2B fids) pf 566 (6,64):=fun g hg=>by
  have h:=q1q hg
  have e:g=215:=by simpa [fids] using h
  subst e
  exact ⟨Tryz.f215,26,28,_,_,_,_,_,_,_,_,_,_,_,Tryz.func215,by kernel_rfl,rfl,rfl,rfl,by kernel_rfl,rfl,by kernel_rfl,rfl,rfl,rfl,by kernel_rfl,by kernel_rfl⟩
theorem qhh:q4M Tryz.prog (q2B fids) pf 214 (1,16):=fun g hg=>by
  have h:=q1q hg
  have e:g=62:=by simpa [fids] using h
  subst e
  exact ⟨Tryz.f62,111,9,_,_,_,_,_,_,_,_,_,_,_,Tryz.func62,by kernel_rfl,rfl,rfl,rfl,by kernel_rfl,rfl,by kernel_rfl,rfl,rfl,rfl,by kernel_rfl,by kernel_rfl⟩
theorem qh5:q4M Tryz.prog (q2B fids) pf 130 (14,184):=fun g hg=>by
  have h:=q1q hg
  have e:g=138:=by simpa [fids] using h
  subst e
  exact ⟨Tryz.f138,43,66,_,_,_,_,_,_,_,_,_,_,_,Tryz.func138,by kernel_rfl,rfl,rfl,rfl,by kernel_rfl,rfl,by kernel_rfl,rfl,rfl,rfl,by kernel_rfl,by kernel_rfl⟩
theorem qll:q4M Tryz.prog (q2B fids) pf 62 (1,1):=fun g hg=>by
  have h:=q1q hg
  have e:g=137:=by simpa [fids] using h
  subst e
  exact ⟨Tryz.f137,42,5,_,_,_,_,_,_,_,_,_,_,_,Tryz.func137,by kernel_rfl,rfl,rfl,rfl,by kernel_rfl,rfl,by kernel_rfl,rfl,rfl,rfl,by kernel_rfl,by kernel_rfl⟩
theorem cA {g f : Nat} {gf : Func} {a : AFn} (hg : Tryz.prog.funcs[g]? = some gf) (hc : qhM f = some a := by rfl) (h : (q9U Tryz.prog (q2B fids) pf gf).map AFn.str = some a.str := by kernel_rfl) (hn : (gf.name == "runtime.NumGoroutine") = false := by kernel_rfl) : CA (g,f) := q01 hc hg h hn
theorem cN {code : Nat → Option AFn} {g f : Nat} {gf : Func} {c : Code} (hg : Tryz.prog.funcs[g]? = some gf) (hc : code f = none := by rfl) (hb : gf.body = some c := by rfl) (hn : (gf.name == "runtime.NumGoroutine") = false := by kernel_rfl) : CodedAt Tryz.prog (q2B fids) pf code (g,f) := q03 hc hg hb hn
theorem qni : ∀ p,p∈fids→CA p:=by
  intro p hp
  simp only[fids,KA,Vq,or_false] at hp
  rcases hp with rfl | rfl | rfl | rfl | rfl | rfl | rfl | rfl | rfl | rfl | rfl | rfl | rfl | rfl | rfl | rfl | rfl | rfl | rfl | rfl | rfl | rfl | rfl | rfl | rfl | rfl | rfl | rfl | rfl | rfl | rfl | rfl | rfl | rfl | rfl | rfl | rfl | rfl | rfl | rfl | rfl | rfl | rfl | rfl | rfl | rfl | rfl | rfl | rfl | rfl | rfl | rfl | rfl | rfl | rfl | rfl | rfl | rfl | rfl | rfl | rfl | rfl | rfl | rfl | rfl | rfl | rfl | rfl | rfl | rfl | rfl | rfl | rfl | rfl | rfl | rfl | rfl | rfl | rfl | rfl | rfl | rfl | rfl | rfl | rfl | rfl | rfl | rfl | rfl | rfl | rfl | rfl | rfl | rfl | rfl | rfl | rfl | rfl | rfl | rfl | rfl | rfl | rfl | rfl | rfl | rfl | rfl | rfl | rfl | rfl | rfl | rfl | rfl | rfl | rfl | rfl | rfl | rfl | rfl | rfl | rfl | rfl | rfl | rfl | rfl | rfl | rfl | rfl | rfl | rfl | rfl | rfl | rfl | rfl | rfl | rfl | rfl | rfl | rfl | rfl | rfl | rfl | rfl | rfl | rfl | rfl | rfl | rfl | rfl | rfl | rfl | rfl | rfl | rfl | rfl | rfl | rfl | rfl | rfl | rfl | rfl | rfl | rfl | rfl | rfl | rfl | rfl | rfl | rfl | rfl | rfl | rfl | rfl | rfl | rfl | rfl | rfl | rfl | rfl | rfl | rfl | rfl | rfl | rfl | rfl | rfl | rfl | rfl | rfl | rfl | rfl | rfl | rfl | rfl | rfl | rfl | rfl | rfl | rfl | rfl | rfl | rfl | rfl | rfl | rfl | rfl | rfl | rfl | rfl | rfl | rfl | rfl | rfl | rfl | rfl | rfl | rfl | rfl | rfl | rfl | rfl | rfl | rfl | rfl | rfl | rfl | rfl | rfl | rfl | rfl | rfl | rfl
  · exact cA Tryz.func89
  · exact cA Tryz.func19
  · exact cA Tryz.func33
  · exact cA Tryz.func55
  · exact cA Tryz.func8
  · exact cA Tryz.func134
  · exact cA Tryz.func46
  · exact cA Tryz.func77
  · exact cA Tryz.func92
  · exact cA Tryz.func27
  · exact cA Tryz.func86
  · exact cA Tryz.func87
  · exact cA Tryz.func176
  · exact cA Tryz.func116
  · exact cA Tryz.func60
  · exact cA Tryz.func129
  · exact cA Tryz.func130
  · exact cA Tryz.func131
  · exact cA Tryz.func132
  · exact cA Tryz.func207
  · exact cA Tryz.func162
  · exact cA Tryz.func102
  · exact cA Tryz.func172
  · exact cA Tryz.func177
  · exact cA Tryz.func178
  · exact cA Tryz.func205
  · exact cA Tryz.func146
  · exact cA Tryz.func147
  · exact cA Tryz.func148
  · exact cA Tryz.func70
  · exact cA Tryz.func66
  · exact cA Tryz.func16
  · exact cA Tryz.func107
  · exact cA Tryz.func108
  · exact cA Tryz.func31
  · exact cA Tryz.func150
  · exact cA Tryz.func152
  · exact cA Tryz.func73
  · exact cA Tryz.func74
  · exact cA Tryz.func75
  · exact cA Tryz.func76
  · exact cA Tryz.func192
  · exact cA Tryz.func161
  · exact cA Tryz.func113
  · exact cA Tryz.func114
  · exact cA Tryz.func115
  · exact cA Tryz.func202
  · exact cA Tryz.func160
  · exact cA Tryz.func37
  · exact cA Tryz.func142
  · exact cA Tryz.func185
  · exact cA Tryz.func214
  · exact cA Tryz.func84
  · exact cA Tryz.func88
  · exact cA Tryz.func110
  · exact cA Tryz.func124
  · exact cA Tryz.func201
  · exact cA Tryz.func133
  · exact cA Tryz.func153
  · exact cA Tryz.func154
  · exact cA Tryz.func173
  · exact cA Tryz.func44
  · exact cA Tryz.func221
  · exact cA Tryz.func197
  · exact cA Tryz.func85
  · exact cA Tryz.func231
  · exact cA Tryz.func125
  · exact cA Tryz.func126
  · exact cA Tryz.func127
  · exact cA Tryz.func128
  · exact cA Tryz.func238
  · exact cA Tryz.func174
  · exact cA Tryz.func175
  · exact cA Tryz.func3
  · exact cA Tryz.func4
  · exact cA Tryz.func13
  · exact cA Tryz.func17
  · exact cA Tryz.func101
  · exact cA Tryz.func79
  · exact cA Tryz.func28
  · exact cA Tryz.func35
  · exact cA Tryz.func6
  · exact cA Tryz.func7
  · exact cA Tryz.func10
  · exact cA Tryz.func9
  · exact cA Tryz.func26
  · exact cA Tryz.func24
  · exact cA Tryz.func25
  · exact cA Tryz.func32
  · exact cA Tryz.func34
  · exact cA Tryz.func145
  · exact cA Tryz.func61
  · exact cA Tryz.func80
  · exact cA Tryz.func81
  · exact cA Tryz.func63
  · exact cA Tryz.func15
  · exact cA Tryz.func18
  · exact cA Tryz.func42
  · exact cA Tryz.func21
  · exact cA Tryz.func20
  · exact cA Tryz.func59
  · exact cA Tryz.func119
  · exact cA Tryz.func57
  · exact cA Tryz.func58
  · exact cA Tryz.func48
  · exact cA Tryz.func78
  · exact cA Tryz.func188
  · exact cA Tryz.func120
  · exact cA Tryz.func103
  · exact cA Tryz.func104
  · exact cA Tryz.func105
  · exact cA Tryz.func30
  · exact cA Tryz.func36
  · exact cA Tryz.func38
  · exact cA Tryz.func39
  · exact cA Tryz.func40
  · exact cA Tryz.func41
  · exact cA Tryz.func43
  · exact cA Tryz.func45
  · exact cA Tryz.func50
  · exact cA Tryz.func82
  · exact cA Tryz.func83
  · exact cA Tryz.func47
  · exact cA Tryz.func99
  · exact cA Tryz.func100
  · exact cA Tryz.func117
  · exact cA Tryz.func118
  · exact cA Tryz.func149
  · exact cA Tryz.func64
  · exact cA Tryz.func65
  · exact cA Tryz.func67
  · exact cA Tryz.func68
  · exact cA Tryz.func69
  · exact cA Tryz.func71
  · exact cA Tryz.func72
  · exact cA Tryz.func121
  · exact cA Tryz.func123
  · exact cA Tryz.func143
  · exact cA Tryz.func144
  · exact cA Tryz.func163
  · exact cA Tryz.func164
  · exact cA Tryz.func165
  · exact cA Tryz.func166
  · exact cA Tryz.func167
  · exact cA Tryz.func168
  · exact cA Tryz.func106
  · exact cA Tryz.func109
  · exact cA Tryz.func111
  · exact cA Tryz.func171
  · exact cA Tryz.func186
  · exact cA Tryz.func206
  · exact cA Tryz.func156
  · exact cA Tryz.func158
  · exact cA Tryz.func159
  · exact cA Tryz.func223
  · exact cA Tryz.func200
  · exact cN Tryz.func245
  · exact cN Tryz.func56
  · exact cN Tryz.func141
  · exact cN Tryz.func93
  · exact cN Tryz.func94
  · exact cN Tryz.func95
  · exact cN Tryz.func96
  · exact cN Tryz.func97
  · exact cN Tryz.func98
  · exact cN Tryz.func139
  · exact cN Tryz.func140
  · exact cN Tryz.func183
  · exact cN Tryz.func211
  · exact cN Tryz.func212
  · exact cN Tryz.func227
  · exact cN Tryz.func234
  · exact cN Tryz.func239
  · exact cN Tryz.func240
  · exact cN Tryz.func241
  · exact cN Tryz.func244
  · exact cN Tryz.func246
  · exact cN Tryz.func247
  · exact cN Tryz.func248
  · exact cN Tryz.func255
  · exact cN Tryz.func256
  · exact cN Tryz.func5
  · exact cN Tryz.func29
  · exact cN Tryz.func12
  · exact cN Tryz.func14
  · exact cN Tryz.func11
  · exact cN Tryz.func22
  · exact cN Tryz.func23
  · exact cN Tryz.func49
  · exact cN Tryz.func51
  · exact cN Tryz.func52
  · exact cN Tryz.func53
  · exact cN Tryz.func54
  · exact cN Tryz.func90
  · exact cN Tryz.func91
  · exact cN Tryz.func122
  · exact cN Tryz.func135
  · exact cN Tryz.func136
  · exact cN Tryz.func179
  · exact cN Tryz.func180
  · exact cN Tryz.func181
  · exact cN Tryz.func182
  · exact cN Tryz.func208
  · exact cN Tryz.func209
  · exact cN Tryz.func210
  · exact cN Tryz.func224
  · exact cN Tryz.func225
  · exact cN Tryz.func226
  · exact cN Tryz.func233
  · exact cN Tryz.func242
  · exact cN Tryz.func243
  · exact cN Tryz.func249
  · exact cN Tryz.func250
  · exact cN Tryz.func251
  · exact cN Tryz.func252
  · exact cN Tryz.func253
  · exact cN Tryz.func254
  · exact cN Tryz.func257
  · exact cN Tryz.func258
  · exact cN Tryz.func187
  · exact cN Tryz.func189
  · exact cN Tryz.func190
  · exact cN Tryz.func191
  · exact cN Tryz.func215
  · exact cN Tryz.func62
  · exact cN Tryz.func138
  · exact cN Tryz.func137
  · exact cN Tryz.func184
  · exact cN Tryz.func199
  · exact cN Tryz.func155
  · exact cN Tryz.func157
  · exact cN Tryz.func112
theorem qu6:CtxOk Tryz.prog (q2B fids) pf (qac qhM qiW qja):=qhj qni (fun f p h=>by
  unfold qiW at h
  split at h
  · cases h
    exact ⟨rfl,qgE⟩
  · cases h
    exact ⟨rfl,qhb⟩
  · cases h
    exact ⟨rfl,qhe⟩
  · cases h
    exact ⟨rfl,qh8⟩
  · cases h
    exact ⟨rfl,qgz⟩
  · cases h
    exact ⟨rfl,qhh⟩
  · cases h
    exact ⟨rfl,qh5⟩
  · cases h) (fun f p h=>by
  unfold qja at h
  split at h
  · cases h
    exact ⟨rfl,qll⟩
  · cases h)
theorem qw1:qqH Tryz.prog (q2B fids) 272:=fun g hg=>by
      have h:=q1q hg
      have e:g=184:=by simpa [fids] using h
      subst e
      exact ⟨_,Tryz.lays213,rfl⟩
theorem qwh:qs2 Tryz.prog (q2B fids) 162:=fun g hg=>by
      have h:=q1q hg
      have e:g=199:=by simpa [fids] using h
      subst e
      exact ⟨_,Tryz.lays137,rfl⟩
theorem quz:qc1 Tryz.prog (q2B fids) Lays.n166 166 298 bQ:=fun g hg=>by
      have h:=q1q hg
      have e:g=155:=by simpa [fids] using h
      subst e
      exact ⟨_,Tryz.lays166,Tryz.Builder_Extra_166,rfl,by kernel_rfl,by kernel_rfl⟩
theorem qsJ:qc1 Tryz.prog (q2B fids) Lays.n167 167 627 bQ:=fun g hg=>by
      have h:=q1q hg
      have e:g=157:=by simpa [fids] using h
      subst e
      exact ⟨_,Tryz.lays167,Tryz.Builder_Extra_167,rfl,by kernel_rfl,by kernel_rfl⟩
theorem qsh:qc1 Tryz.prog (q2B fids) Lays.n169 169 300 bQ:=fun g hg=>by
      have h:=q1q hg
      have e:g=112:=by simpa [fids] using h
      subst e
      exact ⟨_,Tryz.lays169,Tryz.Builder_Extra_169,rfl,by kernel_rfl,by kernel_rfl⟩
theorem qpe {code:Nat→Option AFn} {f:Nat} {ts:List AV} {v:AV} (hf:qja f=none) : ¬ (qac code qiW qja).pprim f ts v:=fun h=>by
  obtain ⟨p,l,h,_⟩:=h
  rw[hf] at h
  cases h
theorem qoV {code:Nat→Option AFn} (h0:CtxOk Tryz.prog (q2B fids) pf (qac code qiW qja)) (h1:code 272=none) (h2:code 551=none) (h3:code 510=none):CtxOk Tryz.prog (q2B fids) pf (qab (qac code qiW qja) csQ lnQ ssQ):=qkq h0 (fun f h=>by
    have e:f=272:=by simpa [csQ] using h
    subst e
    exact ⟨h1,qw1,rfl,fun ts v=>qpe rfl⟩) (fun f h=>by
    have e:f=551:=by simpa [lnQ] using h
    subst e
    exact ⟨h2,fun g hg=>by
      have h:=q1q hg
      simp [fids] at h,rfl,fun ts v=>qpe rfl⟩) (fun f h=>by
    have e:f=510:=by simpa [ssQ] using h
    subst e
    exact ⟨h3,fun g hg=>by
      have h:=q1q hg
      simp [fids] at h,fun a H v H' h=>by
      obtain ⟨p,x,h,_⟩:=h
      cases h⟩)
theorem qx0:CtxOk Tryz.prog (q2B fids) pf CS:=qoV qu6 rfl rfl rfl
/-- Every loop keeps all q0i. -/
def setL (n:Nat):ACode→ACode
  | .seq a b=>.seq (setL n a) (setL n b)
  | .cond x a b=>.cond x (setL n a) (setL n b)
  | .block id b=>.block id (setL n b)
  | .scope b=>.scope (setL n b)
  | .loop _ b=>.loop (List.range n) (setL n b)
  | c=>c
theorem q3b (n:Nat) : ∀ c:ACode,c.strip=(setL n c).strip
  | .seq a b=>by simp only[setL,ACode.strip,q3b n a,q3b n b]
  | .cond x a b=>by simp only[setL,ACode.strip,q3b n a,q3b n b]
  | .block id b=>by simp only[setL,ACode.strip,q3b n b]
  | .scope b=>by simp only[setL,ACode.strip,q3b n b]
  | .loop l b=>by simp only[setL,ACode.strip,q3b n b]
  | .skip=>rfl
  | .ops l=>rfl
  | .draw k l=>rfl
  | .exit i=>rfl
  | .ret=>rfl
noncomputable def q0N (gf:Func):Option AFn:=(q9U Tryz.prog (q2B fids) pf gf).map fun x=>{ x with body:=setL x.nt x.body }
noncomputable def qn6:Nat→Option AFn
  | 26=>q0N Tryz.f55
  | 29=>q0N Tryz.f8
  | 45=>q0N Tryz.f92
  | 46=>q0N Tryz.f27
  | 63=>q0N Tryz.f60
  | 73=>q0N Tryz.f245
  | 84=>q0N Tryz.f102
  | 94=>q0N Tryz.f146
  | 95=>q0N Tryz.f147
  | 96=>q0N Tryz.f148
  | 123=>q0N Tryz.f70
  | 124=>q0N Tryz.f66
  | 126=>q0N Tryz.f16
  | 128=>q0N Tryz.f107
  | 129=>q0N Tryz.f108
  | 133=>q0N Tryz.f31
  | 136=>q0N Tryz.f150
  | 138=>q0N Tryz.f152
  | 139=>q0N Tryz.f73
  | 140=>q0N Tryz.f74
  | 141=>q0N Tryz.f75
  | 142=>q0N Tryz.f76
  | 143=>q0N Tryz.f192
  | 148=>q0N Tryz.f161
  | 149=>q0N Tryz.f113
  | 150=>q0N Tryz.f114
  | 151=>q0N Tryz.f115
  | 155=>q0N Tryz.f202
  | 158=>q0N Tryz.f160
  | 229=>q0N Tryz.f142
  | 250=>q0N Tryz.f185
  | 254=>q0N Tryz.f56
  | 257=>q0N Tryz.f141
  | 262=>q0N Tryz.f214
  | 265=>q0N Tryz.f93
  | 266=>q0N Tryz.f94
  | 267=>q0N Tryz.f95
  | 268=>q0N Tryz.f96
  | 269=>q0N Tryz.f97
  | 270=>q0N Tryz.f98
  | 274=>q0N Tryz.f139
  | 275=>q0N Tryz.f140
  | 287=>q0N Tryz.f183
  | 292=>q0N Tryz.f211
  | 293=>q0N Tryz.f212
  | 301=>q0N Tryz.f227
  | 307=>q0N Tryz.f234
  | 358=>q0N Tryz.f110
  | 371=>q0N Tryz.f201
  | 377=>q0N Tryz.f153
  | 378=>q0N Tryz.f154
  | 395=>q0N Tryz.f221
  | 396=>q0N Tryz.f197
  | 404=>q0N Tryz.f231
  | 419=>q0N Tryz.f238
  | 420=>q0N Tryz.f239
  | 421=>q0N Tryz.f240
  | 422=>q0N Tryz.f241
  | 428=>q0N Tryz.f244
  | 429=>q0N Tryz.f246
  | 430=>q0N Tryz.f247
  | 431=>q0N Tryz.f248
  | 434=>q0N Tryz.f255
  | 435=>q0N Tryz.f256
  | 454=>q0N Tryz.f13
  | 456=>q0N Tryz.f5
  | 457=>q0N Tryz.f101
  | 459=>q0N Tryz.f28
  | 461=>q0N Tryz.f29
  | 462=>q0N Tryz.f6
  | 464=>q0N Tryz.f12
  | 466=>q0N Tryz.f14
  | 481=>q0N Tryz.f26
  | 485=>q0N Tryz.f24
  | 486=>q0N Tryz.f25
  | 489=>q0N Tryz.f11
  | 490=>q0N Tryz.f145
  | 491=>q0N Tryz.f61
  | 494=>q0N Tryz.f63
  | 495=>q0N Tryz.f15
  | 497=>q0N Tryz.f22
  | 498=>q0N Tryz.f23
  | 509=>q0N Tryz.f59
  | 513=>q0N Tryz.f57
  | 514=>q0N Tryz.f58
  | 515=>q0N Tryz.f48
  | 517=>q0N Tryz.f188
  | 522=>q0N Tryz.f103
  | 523=>q0N Tryz.f104
  | 524=>q0N Tryz.f105
  | 525=>q0N Tryz.f30
  | 529=>q0N Tryz.f40
  | 533=>q0N Tryz.f49
  | 534=>q0N Tryz.f50
  | 535=>q0N Tryz.f51
  | 536=>q0N Tryz.f52
  | 537=>q0N Tryz.f53
  | 538=>q0N Tryz.f54
  | 562=>q0N Tryz.f99
  | 563=>q0N Tryz.f100
  | 567=>q0N Tryz.f149
  | 568=>q0N Tryz.f64
  | 569=>q0N Tryz.f65
  | 570=>q0N Tryz.f67
  | 571=>q0N Tryz.f68
  | 572=>q0N Tryz.f69
  | 573=>q0N Tryz.f71
  | 574=>q0N Tryz.f72
  | 575=>q0N Tryz.f90
  | 576=>q0N Tryz.f91
  | 597=>q0N Tryz.f143
  | 598=>q0N Tryz.f144
  | 605=>q0N Tryz.f106
  | 606=>q0N Tryz.f109
  | 607=>q0N Tryz.f111
  | 608=>q0N Tryz.f135
  | 609=>q0N Tryz.f136
  | 624=>q0N Tryz.f186
  | 626=>q0N Tryz.f156
  | 628=>q0N Tryz.f158
  | 629=>q0N Tryz.f159
  | 630=>q0N Tryz.f179
  | 631=>q0N Tryz.f180
  | 632=>q0N Tryz.f181
  | 633=>q0N Tryz.f182
  | 639=>q0N Tryz.f200
  | 640=>q0N Tryz.f208
  | 641=>q0N Tryz.f209
  | 642=>q0N Tryz.f210
  | 644=>q0N Tryz.f224
  | 645=>q0N Tryz.f225
  | 646=>q0N Tryz.f226
  | 648=>q0N Tryz.f233
  | 649=>q0N Tryz.f242
  | 650=>q0N Tryz.f243
  | 651=>q0N Tryz.f249
  | 652=>q0N Tryz.f250
  | 653=>q0N Tryz.f251
  | 654=>q0N Tryz.f252
  | 655=>q0N Tryz.f253
  | 656=>q0N Tryz.f254
  | 657=>q0N Tryz.f257
  | 658=>q0N Tryz.f258
  | _=>none
noncomputable def CF:Ctx:=qab (qac qn6 qiW qja) csQ lnQ ssQ
theorem qlJ:Fits CF qn6 qiW qja:=qmm (qpt _ _ _)
abbrev CB (p:Nat × Nat):Prop:=CodedAt Tryz.prog (q2B fids) pf qn6 p
theorem q0c {g f : Nat} {gf : Func} {c : Code} (hg : Tryz.prog.funcs[g]? = some gf) (hc : qn6 f = q0N gf := by rfl) (hb : gf.body = some c := by rfl) (hn : (gf.name == "runtime.NumGoroutine") = false := by kernel_rfl) : CB (g,f) :=
  ⟨⟨gf,c,hg,hb,hn⟩,fun a ha=>by
    rw[hc] at ha
    obtain ⟨x,hx,rfl⟩:=Kg.1 ha
    exact ⟨gf,x,hg,hx,rfl,rfl,q3b _ _⟩⟩
theorem qpj : ∀ p,p∈fids→CB p:=by
  intro p hp
  simp only[fids,KA,Vq,or_false] at hp
  rcases hp with rfl | rfl | rfl | rfl | rfl | rfl | rfl | rfl | rfl | rfl | rfl | rfl | rfl | rfl | rfl | rfl | rfl | rfl | rfl | rfl | rfl | rfl | rfl | rfl | rfl | rfl | rfl | rfl | rfl | rfl | rfl | rfl | rfl | rfl | rfl | rfl | rfl | rfl | rfl | rfl | rfl | rfl | rfl | rfl | rfl | rfl | rfl | rfl | rfl | rfl | rfl | rfl | rfl | rfl | rfl | rfl | rfl | rfl | rfl | rfl | rfl | rfl | rfl | rfl | rfl | rfl | rfl | rfl | rfl | rfl | rfl | rfl | rfl | rfl | rfl | rfl | rfl | rfl | rfl | rfl | rfl | rfl | rfl | rfl | rfl | rfl | rfl | rfl | rfl | rfl | rfl | rfl | rfl | rfl | rfl | rfl | rfl | rfl | rfl | rfl | rfl | rfl | rfl | rfl | rfl | rfl | rfl | rfl | rfl | rfl | rfl | rfl | rfl | rfl | rfl | rfl | rfl | rfl | rfl | rfl | rfl | rfl | rfl | rfl | rfl | rfl | rfl | rfl | rfl | rfl | rfl | rfl | rfl | rfl | rfl | rfl | rfl | rfl | rfl | rfl | rfl | rfl | rfl | rfl | rfl | rfl | rfl | rfl | rfl | rfl | rfl | rfl | rfl | rfl | rfl | rfl | rfl | rfl | rfl | rfl | rfl | rfl | rfl | rfl | rfl | rfl | rfl | rfl | rfl | rfl | rfl | rfl | rfl | rfl | rfl | rfl | rfl | rfl | rfl | rfl | rfl | rfl | rfl | rfl | rfl | rfl | rfl | rfl | rfl | rfl | rfl | rfl | rfl | rfl | rfl | rfl | rfl | rfl | rfl | rfl | rfl | rfl | rfl | rfl | rfl | rfl | rfl | rfl | rfl | rfl | rfl | rfl | rfl | rfl | rfl | rfl | rfl | rfl | rfl | rfl | rfl | rfl | rfl | rfl | rfl | rfl | rfl | rfl | rfl | rfl | rfl | rfl
  · exact cN Tryz.func89
  · exact cN Tryz.func19
  · exact cN Tryz.func33
  · exact q0c Tryz.func55
  · exact q0c Tryz.func8
  · exact cN Tryz.func134
  · exact cN Tryz.func46
  · exact cN Tryz.func77
  · exact q0c Tryz.func92
  · exact q0c Tryz.func27
  · exact cN Tryz.func86
  · exact cN Tryz.func87
  · exact cN Tryz.func176
  · exact cN Tryz.func116
  · exact q0c Tryz.func60
  · exact cN Tryz.func129
  · exact cN Tryz.func130
  · exact cN Tryz.func131
  · exact cN Tryz.func132
  · exact cN Tryz.func207
  · exact cN Tryz.func162
  · exact q0c Tryz.func102
  · exact cN Tryz.func172
  · exact cN Tryz.func177
  · exact cN Tryz.func178
  · exact cN Tryz.func205
  · exact q0c Tryz.func146
  · exact q0c Tryz.func147
  · exact q0c Tryz.func148
  · exact q0c Tryz.func70
  · exact q0c Tryz.func66
  · exact q0c Tryz.func16
  · exact q0c Tryz.func107
  · exact q0c Tryz.func108
  · exact q0c Tryz.func31
  · exact q0c Tryz.func150
  · exact q0c Tryz.func152
  · exact q0c Tryz.func73
  · exact q0c Tryz.func74
  · exact q0c Tryz.func75
  · exact q0c Tryz.func76
  · exact q0c Tryz.func192
  · exact q0c Tryz.func161
  · exact q0c Tryz.func113
  · exact q0c Tryz.func114
  · exact q0c Tryz.func115
  · exact q0c Tryz.func202
  · exact q0c Tryz.func160
  · exact cN Tryz.func37
  · exact q0c Tryz.func142
  · exact q0c Tryz.func185
  · exact q0c Tryz.func214
  · exact cN Tryz.func84
  · exact cN Tryz.func88
  · exact q0c Tryz.func110
  · exact cN Tryz.func124
  · exact q0c Tryz.func201
  · exact cN Tryz.func133
  · exact q0c Tryz.func153
  · exact q0c Tryz.func154
  · exact cN Tryz.func173
  · exact cN Tryz.func44
  · exact q0c Tryz.func221
  · exact q0c Tryz.func197
  · exact cN Tryz.func85
  · exact q0c Tryz.func231
  · exact cN Tryz.func125
  · exact cN Tryz.func126
  · exact cN Tryz.func127
  · exact cN Tryz.func128
  · exact q0c Tryz.func238
  · exact cN Tryz.func174
  · exact cN Tryz.func175
  · exact cN Tryz.func3
  · exact cN Tryz.func4
  · exact q0c Tryz.func13
  · exact cN Tryz.func17
  · exact q0c Tryz.func101
  · exact cN Tryz.func79
  · exact q0c Tryz.func28
  · exact cN Tryz.func35
  · exact q0c Tryz.func6
  · exact cN Tryz.func7
  · exact cN Tryz.func10
  · exact cN Tryz.func9
  · exact q0c Tryz.func26
  · exact q0c Tryz.func24
  · exact q0c Tryz.func25
  · exact cN Tryz.func32
  · exact cN Tryz.func34
  · exact q0c Tryz.func145
  · exact q0c Tryz.func61
  · exact cN Tryz.func80
  · exact cN Tryz.func81
  · exact q0c Tryz.func63
  · exact q0c Tryz.func15
  · exact cN Tryz.func18
  · exact cN Tryz.func42
  · exact cN Tryz.func21
  · exact cN Tryz.func20
  · exact q0c Tryz.func59
  · exact cN Tryz.func119
  · exact q0c Tryz.func57
  · exact q0c Tryz.func58
  · exact q0c Tryz.func48
  · exact cN Tryz.func78
  · exact q0c Tryz.func188
  · exact cN Tryz.func120
  · exact q0c Tryz.func103
  · exact q0c Tryz.func104
  · exact q0c Tryz.func105
  · exact q0c Tryz.func30
  · exact cN Tryz.func36
  · exact cN Tryz.func38
  · exact cN Tryz.func39
  · exact q0c Tryz.func40
  · exact cN Tryz.func41
  · exact cN Tryz.func43
  · exact cN Tryz.func45
  · exact q0c Tryz.func50
  · exact cN Tryz.func82
  · exact cN Tryz.func83
  · exact cN Tryz.func47
  · exact q0c Tryz.func99
  · exact q0c Tryz.func100
  · exact cN Tryz.func117
  · exact cN Tryz.func118
  · exact q0c Tryz.func149
  · exact q0c Tryz.func64
  · exact q0c Tryz.func65
  · exact q0c Tryz.func67
  · exact q0c Tryz.func68
  · exact q0c Tryz.func69
  · exact q0c Tryz.func71
  · exact q0c Tryz.func72
  · exact cN Tryz.func121
  · exact cN Tryz.func123
  · exact q0c Tryz.func143
  · exact q0c Tryz.func144
  · exact cN Tryz.func163
  · exact cN Tryz.func164
  · exact cN Tryz.func165
  · exact cN Tryz.func166
  · exact cN Tryz.func167
  · exact cN Tryz.func168
  · exact q0c Tryz.func106
  · exact q0c Tryz.func109
  · exact q0c Tryz.func111
  · exact cN Tryz.func171
  · exact q0c Tryz.func186
  · exact cN Tryz.func206
  · exact q0c Tryz.func156
  · exact q0c Tryz.func158
  · exact q0c Tryz.func159
  · exact cN Tryz.func223
  · exact q0c Tryz.func200
  · exact q0c Tryz.func245
  · exact q0c Tryz.func56
  · exact q0c Tryz.func141
  · exact q0c Tryz.func93
  · exact q0c Tryz.func94
  · exact q0c Tryz.func95
  · exact q0c Tryz.func96
  · exact q0c Tryz.func97
  · exact q0c Tryz.func98
  · exact q0c Tryz.func139
  · exact q0c Tryz.func140
  · exact q0c Tryz.func183
  · exact q0c Tryz.func211
  · exact q0c Tryz.func212
  · exact q0c Tryz.func227
  · exact q0c Tryz.func234
  · exact q0c Tryz.func239
  · exact q0c Tryz.func240
  · exact q0c Tryz.func241
  · exact q0c Tryz.func244
  · exact q0c Tryz.func246
  · exact q0c Tryz.func247
  · exact q0c Tryz.func248
  · exact q0c Tryz.func255
  · exact q0c Tryz.func256
  · exact q0c Tryz.func5
  · exact q0c Tryz.func29
  · exact q0c Tryz.func12
  · exact q0c Tryz.func14
  · exact q0c Tryz.func11
  · exact q0c Tryz.func22
  · exact q0c Tryz.func23
  · exact q0c Tryz.func49
  · exact q0c Tryz.func51
  · exact q0c Tryz.func52
  · exact q0c Tryz.func53
  · exact q0c Tryz.func54
  · exact q0c Tryz.func90
  · exact q0c Tryz.func91
  · exact cN Tryz.func122
  · exact q0c Tryz.func135
  · exact q0c Tryz.func136
  · exact q0c Tryz.func179
  · exact q0c Tryz.func180
  · exact q0c Tryz.func181
  · exact q0c Tryz.func182
  · exact q0c Tryz.func208
  · exact q0c Tryz.func209
  · exact q0c Tryz.func210
  · exact q0c Tryz.func224
  · exact q0c Tryz.func225
  · exact q0c Tryz.func226
  · exact q0c Tryz.func233
  · exact q0c Tryz.func242
  · exact q0c Tryz.func243
  · exact q0c Tryz.func249
  · exact q0c Tryz.func250
  · exact q0c Tryz.func251
  · exact q0c Tryz.func252
  · exact q0c Tryz.func253
  · exact q0c Tryz.func254
  · exact q0c Tryz.func257
  · exact q0c Tryz.func258
  · exact cN Tryz.func187
  · exact cN Tryz.func189
  · exact cN Tryz.func190
  · exact cN Tryz.func191
  · exact cN Tryz.func215
  · exact cN Tryz.func62
  · exact cN Tryz.func138
  · exact cN Tryz.func137
  · exact cN Tryz.func184
  · exact cN Tryz.func199
  · exact cN Tryz.func155
  · exact cN Tryz.func157
  · exact cN Tryz.func112
theorem qwV:CtxOk Tryz.prog (q2B fids) pf CF:=qoV (qhj qpj (fun f p h=>by
  unfold qiW at h
  split at h
  · cases h
    exact ⟨rfl,qgE⟩
  · cases h
    exact ⟨rfl,qhb⟩
  · cases h
    exact ⟨rfl,qhe⟩
  · cases h
    exact ⟨rfl,qh8⟩
  · cases h
    exact ⟨rfl,qgz⟩
  · cases h
    exact ⟨rfl,qhh⟩
  · cases h
    exact ⟨rfl,qh5⟩
  · cases h) (fun f p h=>by
  unfold qja at h
  split at h
  · cases h
    exact ⟨rfl,qll⟩
  · cases h)) rfl rfl rfl
end Go.Proofs.YtahoajoopdphhaaGreatDoor
