/- Ta, Tb, Tc, Td, Te, Tf, FwZ, Gb: texts of this claim, joined; what the claim does not come to is left out. -/
import Derived.Test.YtjnbnlniafmblaaGreatQA4
import Derived.Test.YtjnbnlniafmblaaGreatProg
import Derived.Deep.Strs
set_option linter.unusedVariables false
set_option linter.unusedSimpArgs false
namespace Go.Proofs.YtjnbnlniafmblaaGreat
open Go Go.RowKit
section
set_option maxHeartbeats 4000000
set_option maxRecDepth 100000
attribute [local irreducible] LW
theorem Dh (w:World)(S:List Nat)(g:Nat)(pp:Value)(ip:Int)(T:Tp)(c:Az)(v:Int)(hS:∀b∈S,b<w.heap.size)(hgS:g∈S)(hR0:T3 46 177 2 S g w.heap pp ip T)(_hip:Bk ip)(hln:T.code.length≤4000∧T.vals.length≤4000)(hcv:T.code.length=T.vals.length)(hc:OG c)(_hv:Bk v)  :
    Calls Tryz.prog 180 #[zP g,(.agg #[(zI c.op),(zI c.a),(zI c.b),(zI c.num)]),zI v] w (fun e w'=>∃S':List Nat,e=.returned (zI (T.vals.length:Int))∧Dy S S' w w'∧T3 46 177 2 S' g w'.heap pp ip (T.put c v)):=by
  refine As [zP g,.agg #[zI c.op,zI c.a,zI c.b,zI c.num],zI v] 36 Tryz.func180 Z Z sM ?_
  have bv:AA S w w:=AA.refl S w
  obtain⟨rc0,rg0,rv0,b8,bw⟩:=hR0
  have co:=b8.lt
  have b9:Dy S S w w:=Dy.refl hS
  refine ZN [3,0] Z ?_
  have ch:=b8.lt
  refine Bj (cs:=#[zI c.op,zI c.a,zI c.b,zI c.num]) Z Aa fun w1 ao ci b5=>?_
  have bx:w.heap.size≤w1.heap.size:=ao.size
  have bn:AA S w w1:=bv.ext ao
  have ae:=b8.ext ao
  have bz:=BG.ext bw ao
  have ba:=b9.ext ao
  replace b5:BX w1.heap w.heap.size [zI c.op,zI c.a,zI c.b,zI c.num]:=b5
  refine Ac 1 Z<|A0 ?_
  obtain⟨Fc4,Fg4,Fv4,bb,ak,al,a5,am,ap,bc,bd⟩:=id bz
  refine AO _ [0,0,0,0,0,1,1,3,4,0,0,0,4] mixed (by kernel_rfl)<|Ad 2 Z<|Bb Z Aa<|Ak (p:=zP g) 1 FV Z Z Aa<|Ak (p:=An (zP g) 1) (b:=g) (o:=1) 1 Cb Z Z Aa<|Ae (p:=An (An (zP g) 1) 1) (.inl Z) rc0 Dv Z (ae.ldp (i:=2) sM) Aa<|AJ (p:=zP w.heap.size) (.inl Z) [zI c.op,zI c.a,zI c.b,zI c.num] DE Z (fun cp c0=>LD.of_box<|BX.ext (w:=w1.drew) b5 c0) Z Aa ?_
  refine KH (cs:=[zI c.op,zI c.a,zI c.b,zI c.num]) (y:=(⟨c.op,c.a,c.b,c.num⟩:Az)) (B:=w1.heap.size) AW IP EM Z (by decide) Z (OH (x:=(⟨c.op,c.a,c.b,c.num⟩:Az)) (U:=w1.heap.size) ⟨hc.1,hc.2.1,hc.2.2.1,hc.2.2.2⟩) (A7 _) Aa fun v5 w5 a1 cj c1=>?_
  replace a1:=a1.of_drew
  have c2:w1.heap.size≤w5.heap.size:=a1.size
  have ck:AA S w w5:=bn.ext a1
  have aq:=ae.ext a1
  have c3:=ba.ext a1
  have hOc4x:=bb.ext (Av AW) a1
  have hOg4x:=ak.ext (Av B6) a1
  have hOv4x:=al.ext (AY AK) a1
  refine JA (v:=rc0) (a:=v5) AW IP EM Z (by decide) Z Z hOc4x c1 (A7 _) (Nat.zero_le _) (Nat.zero_le _) oM (by unfold maxLen;omega) Aa fun v6 w6 F6 ar bo b6=>?_
  have be:w5.heap.size≤w6.heap.size:=ar.size
  obtain⟨S6,au⟩:∃l:List Nat,l=F6++S:=⟨_,rfl⟩
  have a6:Dy S S6 w1 w6:=by rw[au];exact⟨fun b hb=>z1 _ hb,fun b hb=>by rcases zi.1 hb with hb|hb;(rcases b6 b hb with h9|h9|h9;exact .inl (ap b h9);(right;have:=a1.size;omega);(right;have:=a1.size;omega));exact .inl hb,fun b hb=>by rcases zi.1 hb with hb|hb;exact bo.high b hb;(have:=c3.lt b hb;omega),(AA.of_ext _ a1).trans (ar.sub ap)⟩
  have bp:BG 46 177 2 S6 g w6.heap v6 rg0 rv0 (T.pc (⟨c.op,c.a,c.b,c.num⟩:Az)):=⟨F6,Fg4,Fv4,bo,(hOg4x.up a1.size).chgS (Av B6) ar (fun b hb hm=>a5.1 b hb hm),(hOv4x.up a1.size).chgS (AY AK) ar (fun b hb hm=>a5.2.1 b hb hm),⟨fun b hm hb=>by rcases b6 b hm with h9|h9|h9;exact a5.1 b h9 hb;(have:=ak.high b hb;have:=a1.size;omega);(have:=ak.high b hb;have:=a1.size;omega),fun b hm hb=>by rcases b6 b hm with h9|h9|h9;exact a5.2.1 b h9 hb;(have:=al.high b hb;have:=a1.size;omega);(have:=al.high b hb;have:=a1.size;omega),a5.2.2⟩,⟨fun hm=>by rcases b6 g hm with h9|h9|h9;exact am.1 h9;omega;omega,am.2⟩,by rw[au];exact⟨fun b hb=>z8 _ hb,fun b hb=>z1 _ (bc b hb),fun b hb=>z1 _ (bd b hb)⟩⟩
  have c4:=aq.chg ar am.1
  have be:w1.heap.size≤w6.heap.size:=a6.chg.size
  have c5:AA S w w6:=bn.stp a6.chg ba.new
  have af:w.heap.size∉S6:=fun hm=>(a6.new _ hm).elim (fun hm=>(zH<|b9.lt _ hm)) (fun h9=>by omega)
  have c7:=ba.trans a6
  have c8:(T.pc (⟨c.op,c.a,c.b,c.num⟩:Az)).vals.length=T.vals.length:=by simp[Tp.pc,Tp.pv]
  have c9:(T.pc (⟨c.op,c.a,c.b,c.num⟩:Az)).code.length=T.code.length+1:=by simp[Tp.pc,Tp.pv]
  refine Bb Z Aa<|Ak (p:=zP g) 1 FV Z Z Aa<|Ak (p:=An (zP g) 1) (b:=g) (o:=1) 1 Cb Z Z Aa (BH (k:=2) (w:=w6) TZ Z Z (Bn bp.slc) c4 sM Aa fun ax a7 ca aa=>?_)
  replace aa:BX ax.heap g [pp,zI ip,v6,rg0,zN,rv0]:=aa
  have av:AA S w ax:=c5.trans (a7.sub (B2 hgS))
  have aw:=BG.chg bp a7
  have an:=c7.set hgS a7
  have bq:w6.heap.size≤ax.heap.size:=a7.size
  refine Aj<|A0 ?_
  obtain⟨Fc15,Fg15,Fv15,ag,ah,ay,a2,a4,az,b0,ai⟩:=id aw
  refine Ab _ [0,0,0,0,2,0,3,4,0,0,4] Z<|Ad 2 Z<|Bb Z Aa<|Ak (p:=zP g) 5 HY Z Z Aa<|Ae (p:=An (zP g) 5) (.inr Z) rv0 AZ Z (aa.ldp (i:=5) sM) Aa<|Ad 1 Z (By (u:=zI v) (B:=ax.heap.size) AK Bl BD Z Z (Mb ax.heap.size ax.heap.size _ _ _hv) (A7 _) Aa fun cn bj a0 cb bf=>?_)
  have br:ax.heap.size≤bj.heap.size:=a0.size
  have cc:AA S w bj:=av.ext a0
  have ab:=aa.ext a0
  have cd:=(BG.rdv aw).ext g1 a0
  have bg:=an.ext a0
  have hOc15x:=ag.ext (Av AW) a0
  have hOg15x:=ah.ext (Av B6) a0
  have hOv15x:=ay.ext (AY AK) a0
  refine ER (v:=rv0) (a:=cn) Bl BD Z Z Z hOv15x bf.rd1 (Nat.zero_le _) (by simp only[z9,zb];omega) (by simp only[z9,zb];unfold maxLen;omega) Aa fun cl b7 cm a8 b1 ac=>?_
  have b2:bj.heap.size≤b7.heap.size:=a8.size
  obtain⟨c6,aj⟩:∃l:List Nat,l=cm++S6:=⟨_,rfl⟩
  have a3:Dy S6 c6 ax b7:=by rw[aj];exact⟨fun b hb=>z1 _ hb,fun b hb=>by rcases zi.1 hb with hb|hb;(rcases ac b hb with h9|h9;exact .inl (ai b h9);(right;have:=a0.size;omega));exact .inl hb,fun b hb=>by rcases zi.1 hb with hb|hb;exact b1.high b hb;(have:=bg.lt b hb;omega),(AA.of_ext _ a0).trans (a8.sub ai)⟩
  have b3:BG 46 177 2 c6 g b7.heap v6 rg0 cl ((T.pc (⟨c.op,c.a,c.b,c.num⟩:Az)).pv (v)):=⟨Fc15,Fg15,cm,(hOc15x.up a0.size).chgS (Av AW) a8 (fun b hb hm=>a2.2.1 b hm hb),(hOg15x.up a0.size).chgS (Av B6) a8 (fun b hb hm=>a2.2.2 b hm hb),b1,⟨a2.1,fun b hb hm=>by rcases ac b hm with h9|h9;exact a2.2.1 b hb h9;(have:=ag.high b hb;have:=a0.size;omega),fun b hb hm=>by rcases ac b hm with h9|h9;exact a2.2.2 b hb h9;(have:=ah.high b hb;have:=a0.size;omega)⟩,⟨a4.1,a4.2.1,fun hm=>by rcases ac g hm with h9|h9;exact a4.2.2 h9;omega⟩,by rw[aj];exact⟨fun b hb=>z1 _ (az b hb),fun b hb=>z1 _ (b0 b hb),fun b hb=>z8 _ hb⟩⟩
  have bh:=ab.chg a8 a4.2.2
  have b2:ax.heap.size≤b7.heap.size:=a3.chg.size
  have bi:AA S w b7:=av.stp a3.chg an.new
  have bk:w.heap.size∉c6:=fun hm=>(a3.new _ hm).elim (fun hm=>af hm) (fun h9=>by omega)
  have bl:=an.trans a3
  have bs:((T.pc (⟨c.op,c.a,c.b,c.num⟩:Az)).pv (v)).vals.length=(T.pc (⟨c.op,c.a,c.b,c.num⟩:Az)).vals.length+1:=by simp[Tp.pc,Tp.pv]
  have bt:((T.pc (⟨c.op,c.a,c.b,c.num⟩:Az)).pv (v)).code.length=(T.pc (⟨c.op,c.a,c.b,c.num⟩:Az)).code.length:=by simp[Tp.pc,Tp.pv]
  refine Bb Z Aa<|Ak (p:=zP g) 5 HY Z Z Aa (BH (k:=5) (w:=b7) H8 Z Z (Bn b3.slv) bh sM Aa fun cg a9 ce ad=>?_)
  replace ad:BX cg.heap g [pp,zI ip,v6,rg0,zN,cl]:=ad
  have cf:AA S w cg:=bi.trans (a9.sub (B2 hgS))
  have b4:=BG.chg b3 a9
  have bm:=bl.set hgS a9
  have bu:b7.heap.size≤cg.heap.size:=a9.size
  exact Aj<|ZN [0,0,0,0,2,0,0,0] Z<|Ad 1 Z<|Bb Z Aa<|Ak (p:=zP g) 1 FV Z Z Aa<|Ak (p:=An (zP g) 1) (b:=g) (o:=1) 1 Cb Z Z Aa<|Ae (p:=An (An (zP g) 1) 1) (.inr Z) v6 Dv Z (ad.ldp (i:=2) sM) Aa<|AP (v:=v6) IP Z (BG.slc b4) Aa<|Bi (T.vals.length:Int) Z Z (Be oM oM) Aa<|Ac 1 Z<|A1<|Af [6] Z (zI (T.vals.length:Int)) Z ⟨_,rfl,bm,⟨_,_,_,ad,b4⟩⟩
def X2 (F d:Nat):Prop:=∀(w:World) (S:List Nat) (g:Nat) (pp:Value) (dp:Nat) (ip:Int) (p:List Fn) (s0:Nat) (T:Tp) (ve:Value) (ex:Ex) (vv:Value) (env:List Int) (r:Int) (T':Tp) (s':Nat) (hS:∀b∈S,b<w.heap.size) (hgS:g∈S) (hR0:T3 46 177 2 S g w.heap pp ip T) (hp:RN S (rP (K4 dp)) w.heap pp p) (_hip:Bk ip) (hs0:s0≤3000) (hbd:FT T s0) (hex:RN S (rP (H0 d)) w.heap ve ex) (henv:RN S (B5 rI) w.heap vv env) (hqenv:BV vv)
  (hvp:FY p) (hF:F≤p.length) (hwf:wf p ((F:Nat):Int) ex ((env.length:Nat):Int)=true) (hdp:env.length+ex.deep≤1000000) (hen:FD T env) (hrg:DV (Gs p F) ex env s0 T=.ok (r,T') s'),
  Calls Tryz.prog 226 #[.pointer (some ⟨g,0,none⟩),ve,vv] w (fun e w'=>∃S':List Nat,e=.returned (.int .i64 r)∧Dy S S' w w'∧T3 46 177 2 S' g w'.heap pp ip T')
theorem FK (w:World)(S:List Nat)(F:Nat)(xs:Sr)(T':Tp)(s':Nat)(g:Nat)(pp:Value)(dp:Nat)(ip:Int)(p:List Fn)(s0:Nat)(T:Tp)(df:Nat)(vf:Value)(f:Fn)(vv:Value)(env:Sr)(hS:∀b∈S,b<w.heap.size)(hgS:g∈S)(hR0:T3 46 177 2 S g w.heap pp ip T)(hp:RN S (rP (K4 dp)) w.heap pp p)(_hip:Bk ip)(hs0:s0≤3000)(hbd:FT T s0)(hf:RN S (rP (QG df)) w.heap vf f)(henv:RN S (B5 rI) w.heap vv env)(hqenv:BV vv)(hvp:FY p)(hF:F≤p.length)(hwf:∀k,k<f.outs.length→wf p (F:Int) (f.outs.getD k Ex.zero) (env.length:Int)=true)(hdp:∀k,k<f.outs.length→env.length+(f.outs.getD k Ex.zero).deep≤1000000)(hll:f.outs.length≤1000000)(hen:FD T env)(hrg:E2 (Gs p F) f.outs env s0 T=.ok (xs,T') s')(IHv:∀d',X2 F d') :
    Calls Tryz.prog 181 #[zP g,vf,vv] w (fun e w'=>∃(v:Value) (S':List Nat),e=.returned v∧Dy S S' w w'∧T3 46 177 2 S' g w'.heap pp ip T'∧Or S' w.heap.size (B5 rI) w'.heap v xs∧BV v):=by
  refine As [zP g,vf,vv] 32 Tryz.func181 Z Z sM ?_
  have aw:AA S w w:=AA.refl S w
  have bt:=henv.lenL
  unfold maxLen at bt
  obtain⟨rc0,rg0,rv0,ax,ay⟩:=hR0
  have c2:=ax.lt
  have az:Dy S S w w:=Dy.refl hS
  refine ZO Z<|ZN [3,0] Z (Cp (rI) AK Bl BD Aa fun v1 w1 a7 ba b0=>?_)
  have af:w.heap.size≤w1.heap.size:=a7.size
  have b1:AA S w w1:=aw.ext a7
  have a9:=ax.ext a7
  have b2:=BG.ext ay a7
  have b3:=az.ext a7
  refine Ac 1 Z<|A0<|ZO Z<|A3 ?_
  obtain⟨Fo0,aa⟩:=Ow.of_fr b0 (A7 _)
  have ag:∀b∈Fo0,b∉S:=fun b hb hm=>by have:=aa.low b hb;have:=hS b hm;omega
  have hMs:=b2
  have hGs:=b3
  refine AT (S:=Nat×Value×Sr×List Nat×List Nat×Tp×Nat×Value×Value×Value) (fun⟨k,vo,ys,Fo,S9,T9,s9,bu,vg9,vv9⟩=>([(7,vo),(8,zI (k:Int)),(0,zP g),(1,vf),(2,vv)])) (fun⟨k,vo,ys,Fo,S9,T9,s9,bu,vg9,vv9⟩ W=>AA S w W∧BX W.heap g [pp,zI ip,bu,vg9,zN,vv9]∧k≤f.outs.length∧Dy S S9 w W∧BG 46 177 2 S9 g W.heap bu vg9 vv9 T9∧Ow (Bo rI 2) w.heap.size W.heap.size W.heap vo ys Fo∧(∀b∈Fo,b∉S9)∧E2 (Gs p F) (f.outs.take k) env s0 T=.ok (ys,T9) s9) (fun⟨k,vo,ys,Fo,S9,T9,s9,bu,vg9,vv9⟩=>f.outs.length-k) (0,v1,[],Fo0,S,T,s0,rc0,rg0,rv0) ⟨rfl,rfl,rfl,rfl,rfl,trivial⟩ ⟨b1,a9,sD,hGs,hMs,aa,ag,(by rfl)⟩ ?_
  clear aw ay az b0 ba a7 af b1 b2 b3
  rintro⟨k,vo,ys,Fo,S9,T9,s9,bu,vg9,vv9⟩ ρ3 w3 ⟨a5,a1,b4,hGl,hMl,hOl,hdl,hrl⟩
  have bb:w.heap.size≤w3.heap.size:=a5.size
  have bs:=a1.lt
  have hqk:=S0 hvp hF hwf hen hbd hs0 hrl
  have b5:=hqk.1.bnd
  have bc:=hqk.1.le
  have bd:=hqk.1.vl
  have hyl:ys.length=k:=by rw[Je hrl,List.length_take];omega
  refine A0<|ZN [0,0,0,0,2,0,0] Z<|Ad 2 Z<|AG (hf.isPtr) Z Aa ?_
  obtain⟨cs5,be,ad⟩:=RN.at (Ax _) hf
  obtain⟨a8,rfl,ae⟩:=RF.of be
  have ah:=ae.rn.lenle
  unfold maxLen at ah
  refine AD (p:=vf) 2 BQ Z (ad _ a5) Aa<|Ae (p:=An vf 2) (.inr Z) a8 Ba Z ((ad _ a5).ld (i:=2) (by simp[DQ,DU])) Aa<|AP (v:=a8) CB Z ae.rn.isSl Aa ?_
  by_cases b6:(k:Int)<(f.outs.length:Int)
  ·
    refine AE true Z Z (A5 b6) Aa<|Aj<|Ah Z<|A2<|A0<|A3<|Ab _ [0,0,0,0,0,2,0,0,0,4,3,4,0] Z ?_
    have hkl:k<f.outs.length:=by omega
    obtain⟨x1,T1,s1,b7,bf⟩:=Jf hrg hkl hrl
    refine Ad 3 Z<|AG (hf.isPtr) Z Aa<|AD (p:=vf) 2 BQ Z (ad _ a5) Aa<|Ae (p:=An vf 2) (.inr Z) a8 Ba Z ((ad _ a5).ld (i:=2) (by simp[DQ,DU])) Aa<|Ad 1 Z<|Au (v:=a8) k CB Bf Z Z ae.rn.isSl Z sD Aa<|Ad 1 Z ?_
    refine AI 226 [] [] [zP g,Aw a8 k 5,vv] Z Z Gw Aa (IHv df _ S9 g pp dp ip p (s9) (T9) (Aw a8 k 5) (f.outs.getD k Ex.zero) vv (env) x1 T1 s1 (fun b hb=>(hGl.lt b hb:b<w3.heap.size)) (hGl.sub _ hgS) ⟨_,_,_,a1,hMl⟩ (RN.stp (AX<|AR dp) hp a5 hGl.new) _hip oM b5 (RN.ptr (Aq df) (by decide) Ex.zero (RN.stp (Al<|Aq df) ae.rn a5 hGl.new) sD) (RN.stp g1 henv a5 hGl.new) hqenv hvp oM (by exact hwf k hkl) (by exact hdp k hkl) (by exact hen.mono oM) b7) ?_
    rintro e7 w7 ⟨S7,rfl,a2,bz,vg7,vv7,bg,bh⟩
    refine⟨_,rfl,?_⟩
    have bi:w3.heap.size≤w7.heap.size:=a2.chg.size
    have bj:AA S w w7:=a5.stp a2.chg hGl.new
    have ai:=hOl.keep (AY AK) a2.chg fun b hb hm=>hdl b hm hb
    have a3:∀b∈Fo,b∉S7:=fun b hb hm=>(a2.new b hm).elim (hdl b hb) (fun h9=>zH<|hOl.high b hb)
    have bk:=hGl.trans a2
    have ab:=CO hvp F hF _ (hwf k hkl) (hen.mono bd.1) b5 bc.2 b7
    have aj:=ab.1
    have ak:=aj.bnd
    have bl:=aj.le
    have bm:=aj.vl
    have bn:=ak.2.1
    have bo:=ab.2
    have al:Bk (x1):=by omega
    refine (By (u:=zI x1) (B:=w7.heap.size) AK Bl BD Z Z (Mb w7.heap.size w7.heap.size _ _ al) (A7 _) Aa ?_)
    intro c0 bv a0 bp am
    have b8:w7.heap.size≤bv.heap.size:=a0.size
    have an:AA S w bv:=bj.ext a0
    have a6:=bg.ext a0
    have ao:=BG.ext bh a0
    have ac:=bk.ext a0
    have hO17k:=ai.ext (AY AK) a0
    refine ER (v:=vo) (a:=c0) Bl BD Z Z Z hO17k am.rd1 oM sD (by unfold maxLen;first|omega|assumption|(simp only[zb,z9,z4,z6,z5];omega)|(simp[zb,z9,z4,z6,z5];done)|(simp[zb,z9,z4,z6,z5];omega)) Aa fun c1 bw bx a4 bq ap=>?_
    have b9:bv.heap.size≤bw.heap.size:=a4.size
    have aq:AA S w bw:=an.fresh a4 (fun c hc=>zH<|hO17k.low c hc)
    have br:∀b∈bx,b∉S7:=fun b hb hm=>(ap b hb).elim (fun h9=>a3 b h9 hm) (fun h9=>zH<|ac.lt b hm)
    have ar:=BG.chgO ao a4 a3
    have au:=ac.fresh a4 fun c hc=>zH<|hO17k.low c hc
    have av:=a6.chg a4 fun hm=>zH<|hO17k.low _ hm
    refine Ac 1 Z<|Ab _ [0,0,0] Z<|Ad 1 Z<|AQ ((k+1:Nat):Int) Z Z (Be oM oM) Aa<|Ac 1 Z ?_
    have hMe:=ar
    have hGe:=au
    exact⟨(k+1,c1,ys++[x1],bx,S7,T1,s1,bz,vg7,vv7),_,rfl,zR,⟨aq,av,sD,hGe,hMe,(by assumption),(by assumption),bf⟩,zD⟩
  refine AE false Z Z (A6 b6) Aa<|Aj<|Ai Z<|A4<|Ay<|Ay<|At<|ZN [0,0] Z<|Ac 2 Z<|A1 ?_
  obtain⟨e1,e2,e3⟩:=Kx hrg oM hrl
  exact Af [6] Z vo Z ⟨vo,_,rfl,hGl,(by rw[← e2];exact⟨_,_,_,a1,hMl⟩),(by rw[← e1];exact Or.of_ow hOl hdl),hOl.fr.cap⟩
theorem GZ {p:Prop}(h:p:=by simp[DQ,DU]):p:=h
theorem FL (w:World)(S:List Nat)(F:Nat)(r:Int)(T':Tp)(s':Nat)(g:Nat)(pp:Value)(dp:Nat)(ip:Int)(p:List Fn)(s0:Nat)(T:Tp)(dex:Nat)(ve:Value)(ex:Ex)(vv:Value)(env:Sr)(hS:∀b∈S,b<w.heap.size)(hgS:g∈S)(hR0:T3 46 177 2 S g w.heap pp ip T)(hp:RN S (rP (K4 dp)) w.heap pp p)(_hip:Bk ip)(hs0:s0≤3000)(hbd:FT T s0)(hex:RN S (rP (H0 dex)) w.heap ve ex)(henv:RN S (B5 rI) w.heap vv env)(hqenv:BV vv)(hvp:FY p)(hF:F≤p.length)(hwf:wf p (F:Int) ex (env.length:Int)=true)(hdp:env.length+ex.deep≤1000000)(hen:FD T env)(hrg:DV (Gs p F) ex env s0 T=.ok (r,T') s')(hck:ex.kind=10∨ex.kind=11)(IH1:∀F',F'<F→∀d,X2 F' d)(IH2:∀d',d'<dex→X2 F d') :
    Calls Tryz.prog 246 #[zP g,ve,vv] w (fun e w'=>∃S':List Nat,e=.returned (zI r)∧Dy S S' w w'∧T3 46 177 2 S' g w'.heap pp ip T'):=by
  refine As [zP g,ve,vv] 81 Tryz.func246 Z Z sM ?_
  have c4:AA S w w:=AA.refl S w
  have dn:=henv.lenL
  unfold maxLen at dn
  obtain⟨rc0,rg0,rv0,c5,c6⟩:=hR0
  have e9:=c5.lt
  have c7:Dy S S w w:=Dy.refl hS
  have hdk:=D7 ex
  have hlt:=Hs hrg
  have b9:=hbd.up (s':=s0+1) oM
  obtain⟨xs,T1,s1,h1,h10,h11,_⟩:=PQ hrg oM oM oM oM
  have hwk:=Fj hwf hck
  have cv:=MN hwf hvp hF
  refine ZO Z<|ZN [3,0] Z (Cp (rI) AK Bl BD Aa fun v1 w1 am ao c8=>?_)
  have ba:w.heap.size≤w1.heap.size:=am.size
  have c9:AA S w w1:=c4.ext am
  have ap:=c5.ext am
  have ca:=BG.ext c6 am
  have cb:=c7.ext am
  refine Ac 1 Z<|A0<|ZO Z<|A3 ?_
  obtain⟨Fo0,aq⟩:=Ow.of_fr c8 (A7 _)
  have bb:∀b∈Fo0,b∉S:=fun b hb hm=>by have:=aq.low b hb;have:=hS b hm;omega
  have hMs:=ca
  have hGs:=cb
  refine AT (S:=Nat×Value×Sr×List Nat×List Nat×Tp×Nat×Value×Value×Value) (fun⟨k,vo,ys,Fo,S9,T9,s9,dm,vg9,vv9⟩=>([(7,vo),(8,zI (k:Int)),(0,zP g),(1,ve),(2,vv)])) (fun⟨k,vo,ys,Fo,S9,T9,s9,dm,vg9,vv9⟩ W=>AA S w W∧BX W.heap g [pp,zI ip,dm,vg9,zN,vv9]∧k≤ex.kids.length∧Dy S S9 w W∧BG 46 177 2 S9 g W.heap dm vg9 vv9 T9∧Ow (Bo rI 2) w.heap.size W.heap.size W.heap vo ys Fo∧(∀b∈Fo,b∉S9)∧E2 (Gs p F) (ex.kids.take k) env (s0+1) T=.ok (ys,T9) s9) (fun⟨k,vo,ys,Fo,S9,T9,s9,dm,vg9,vv9⟩=>ex.kids.length-k) (0,v1,[],Fo0,S,T,s0+1,rc0,rg0,rv0) ⟨rfl,rfl,rfl,rfl,rfl,trivial⟩ ⟨c9,ap,sD,hGs,hMs,aq,bb,(by rfl)⟩ ?_
  clear c4 c6 c7 c8 ao am ba c9 ca cb
  rintro⟨k,vo,ys,Fo,S9,T9,s9,dm,vg9,vv9⟩ ρ3 w3 ⟨a1,a2,cc,hGl,hMl,hOl,hdl,hrl⟩
  have bc:w.heap.size≤w3.heap.size:=a1.size
  have dj:=a2.lt
  have hqk:=S0 (l:=ex.kids) hvp hF (fun k hk=>BT hwf hk oM) hen b9 hlt hrl
  have ar:=hqk.1.bnd
  have bd:=hqk.1.le
  have cw:=hqk.1.vl
  have hyl:ys.length=k:=by rw[Je hrl,List.length_take];omega
  refine A0<|ZN [0,0,0,0,2,0,0] Z<|Ad 2 Z<|AG (hex.isPtr) Z Aa ?_
  obtain⟨cs5,cx,a7⟩:=RN.at (Aq _) hex
  obtain⟨dd5,an,dk,rfl,b8⟩:=RX.of cx
  have au:=b8.rn.lenle
  unfold maxLen at au
  refine AD (p:=ve) 4 B8 Z (a7 _ a1) Aa<|Ae (p:=An ve 4) (.inr Z) an Ba Z ((a7 _ a1).ld (i:=4) GZ) Aa<|AP (v:=an) CB Z b8.rn.isSl Aa ?_
  by_cases cd:(k:Int)<(ex.kids.length:Int)
  ·
    refine AE true Z Z (A5 cd) Aa<|Aj<|Ah Z<|A2<|A0<|A3<|Ab _ [0,0,0,0,0,2,0,0,0,4,3,4,0] Z ?_
    have hkl:k<ex.kids.length:=by omega
    obtain⟨x1,T1x,s1x,ce,cy⟩:=Jf h1 hkl hrl
    refine Ad 3 Z<|AG (hex.isPtr) Z Aa<|AD (p:=ve) 4 B8 Z (a7 _ a1) Aa<|Ae (p:=An ve 4) (.inr Z) an Ba Z ((a7 _ a1).ld (i:=4) GZ) Aa<|Ad 1 Z<|Au (v:=an) k CB Bf Z Z b8.rn.isSl Z sD Aa<|Ad 1 Z ?_
    refine AI 226 [] [] [zP g,Aw an k 5,vv] Z Z Gw Aa (IH2 dd5 oM _ S9 g pp dp ip p (s9) (T9) (Aw an k 5) (ex.kids.getD k Ex.zero) vv (env) x1 T1x s1x (fun b hb=>(hGl.lt b hb:b<w3.heap.size)) (hGl.sub _ hgS) ⟨_,_,_,a2,hMl⟩ (RN.stp (AX<|AR dp) hp a1 hGl.new) _hip oM ar (RN.ptr (Aq dd5) (by decide) Ex.zero (RN.stp (Al<|Aq dd5) b8.rn a1 hGl.new) sD) (RN.stp g1 henv a1 hGl.new) hqenv hvp oM (by exact BT hwf hkl oM) (zH<|CH (l:=ex.kids) (k:=k) hkl) (by exact hen.mono oM) ce) ?_
    rintro e7 w7 ⟨S7,rfl,a9,dy,vg7,vv7,cz,d0⟩
    refine⟨_,rfl,?_⟩
    have d1:w3.heap.size≤w7.heap.size:=a9.chg.size
    have d2:AA S w w7:=a1.stp a9.chg hGl.new
    have be:=hOl.keep (AY AK) a9.chg fun b hb hm=>hdl b hm hb
    have aa:∀b∈Fo,b∉S7:=fun b hb hm=>(a9.new b hm).elim (hdl b hb) (fun h9=>zH<|hOl.high b hb)
    have d3:=hGl.trans a9
    have av:=CO hvp F hF _ (BT hwf hkl oM) (hen.mono cw.1) ar bd.2 ce
    have bf:=av.1
    have bg:=bf.bnd
    have d4:=bf.le
    have d5:=bf.vl
    have d6:=bg.2.1
    have d7:=av.2
    have bh:Bk (x1):=by omega
    refine (By (u:=zI x1) (B:=w7.heap.size) AK Bl BD Z Z (Mb w7.heap.size w7.heap.size _ _ bh) (A7 _) Aa ?_)
    intro dz ds a8 d8 bi
    have cf:w7.heap.size≤ds.heap.size:=a8.size
    have bj:AA S w ds:=d2.ext a8
    have ag:=cz.ext a8
    have bk:=BG.ext d0 a8
    have aw:=d3.ext a8
    have hO17k:=be.ext (AY AK) a8
    refine ER (v:=vo) (a:=dz) Bl BD Z Z Z hO17k bi.rd1 oM sD (by unfold maxLen;first|omega|assumption|(simp only[zb,z9,z4,z6,z5];omega)|(simp[zb,z9,z4,z6,z5];done)|(simp[zb,z9,z4,z6,z5];omega)) Aa fun e0 du dv ab da bl=>?_
    have cg:ds.heap.size≤du.heap.size:=ab.size
    have bm:AA S w du:=bj.fresh ab (fun c hc=>zH<|hO17k.low c hc)
    have db:∀b∈dv,b∉S7:=fun b hb hm=>(bl b hb).elim (fun h9=>aa b h9 hm) (fun h9=>zH<|aw.lt b hm)
    have bn:=BG.chgO bk ab aa
    have bo:=aw.fresh ab fun c hc=>zH<|hO17k.low c hc
    have bp:=ag.chg ab fun hm=>zH<|hO17k.low _ hm
    refine Ac 1 Z<|Ab _ [0,0,0] Z<|Ad 1 Z<|AQ ((k+1:Nat):Int) Z Z (Be oM oM) Aa<|Ac 1 Z ?_
    have hMe:=bn
    have hGe:=bo
    exact⟨(k+1,e0,ys++[x1],dv,S7,T1x,s1x,dy,vg7,vv7),_,rfl,zR,⟨bm,bp,sD,hGe,hMe,(by assumption),(by assumption),cy⟩,zD⟩
  refine AE false Z Z (A6 cd) Aa<|Aj<|Ai Z<|A4<|Ay<|Ay<|At<|A0<|AO _ [0,0,0,1,0,0,1,0,0,0,1,0,0] mixed (by kernel_rfl) ?_
  obtain⟨e1,e2,e3⟩:=Kx h1 oM hrl
  rw[← e1,← e2,← e3]at h10 h11
  have hvo:=hvp.outs (ex.num).toNat oM
  refine Ad 1 Z<|Bb Z Aa<|Ak (p:=zP g) 0 U4 Z Z Aa<|Ae (p:=An (zP g) 0) (.inl Z) pp UV Z (a2.ldp (i:=0) sM) Aa<|AG (hp.isPtr) Z Aa ?_
  obtain⟨cs25,bq,ax⟩:=RN.at (AR _) hp
  obtain⟨a6,rfl,ac⟩:=RPr.of bq
  have ae:=ac.lenle
  unfold maxLen at ae
  refine AD (p:=pp) 0 BA Z (ax _ a1.drew) Aa<|Ae (p:=An pp 0) (.inl Z) a6 C5 Z ((ax _ a1.drew).ld (i:=0) GZ) Aa<|Ad 1 Z<|AG (hex.isPtr) Z Aa<|AD (p:=ve) 1 Bw Z (a7 _ a1.drew) Aa<|Ae (p:=An ve 1) (.inl Z) (zI ex.num) AC Z ((a7 _ a1.drew).ld (i:=1) GZ) Aa<|Au (v:=a6) ((ex.num).toNat) Fq C9 Z Z ac.isSl oM oM Aa<|Ac 1 Z<|A0<|ZN [0,0,0,2,0] Z<|Ad 1 Z<|AG (hex.isPtr) Z Aa<|AD (p:=ve) 0 BC Z (a7 _ a1.drew) Aa ?_
  refine Ae (p:=An ve 0) (.inr Z) (zI ex.kind) AC Z ((a7 _ a1.drew).ld (i:=0) GZ) Aa ?_
  by_cases ay:ex.kind=((10:Nat):Int)
  ·
    refine Ap true Z Z (A5 ay) Aa<|Aj<|Ah Z<|A0<|AO _ [0,0,0,0,1,0,0,0,1,0,0,4,0] mixed (by kernel_rfl) ?_
    have ah:=h10 oM
    rw[Ks oM]at ah
    have hvd:=hvp.deep (ex.num).toNat oM (ex.pick).toNat oM
    have hvw:=hvp.wf (ex.num).toNat oM (ex.pick).toNat oM
    rw[show(p.getD (ex.num).toNat Fn.zero).params=(ys.length:Int)from by omega]at hvw
    refine Ad 2 Z<|AG (RN.isPtr<|RN.ptr (Ax dp) (by decide) Fn.zero ac oM) Z Aa ?_
    obtain⟨cs27,br,az⟩:=ac.get (Ax dp) Fn.zero (k:=(ex.num).toNat) oM
    obtain⟨ad,rfl,ai⟩:=RF.of br
    have b0:=ai.rn.lenle
    unfold maxLen at b0
    refine AD (p:=Aw a6 ((ex.num).toNat) 3) 2 BQ Z (az _ a1.drew.drew) Aa<|Ae (p:=An (Aw a6 ((ex.num).toNat) 3) 2) (.inl Z) ad Ba Z ((az _ a1.drew.drew).ld (i:=2) GZ) Aa<|Ad 1 Z<|AG (hex.isPtr) Z Aa<|AD (p:=ve) 2 Cn Z (a7 _ a1.drew.drew) Aa<|Ae (p:=An ve 2) (.inl Z) (zI ex.pick) AC Z ((a7 _ a1.drew.drew).ld (i:=2) GZ) Aa<|Au (v:=ad) ((ex.pick).toNat) CB Bf Z Z ai.rn.isSl oM oM Aa<|Ad 1 Z ?_
    refine AI 226 [] [] [zP g,Aw ad ((ex.pick).toNat) 5,vo] Z Z Gw Aa (IH1 (ex.num).toNat oM dp _ S9 g pp dp ip p (s9) (T9) (Aw ad ((ex.pick).toNat) 5) (((p.getD ((ex.num).toNat) Fn.zero).outs).getD ((ex.pick).toNat) Ex.zero) vo (ys) r T' s' (fun b hb=>(hGl.drew.drew.lt b hb:b<w3.heap.size)) (hGl.drew.drew.sub _ hgS) ⟨_,_,_,a2,hMl⟩ (RN.stp (AX<|AR dp) hp a1.drew.drew hGl.drew.drew.new) _hip oM ar (RN.ptr (Aq dp) (by decide) Ex.zero (RN.stp (Al<|Aq dp) ai.rn a1.drew.drew hGl.drew.drew.new) oM) (RN.of_ow hOl hdl) hOl.fr.cap hvp oM hvw oM hqk.2 ah) ?_
    rintro ea dw ⟨e4,rfl,a0,e5,vg28,vv28,b1,b2⟩
    refine⟨_,rfl,?_⟩
    replace a0:=a0.of_drew
    replace a0:=a0.of_drew
    have ch:w3.heap.size≤dw.heap.size:=a0.chg.size
    have dc:AA S w dw:=a1.stp a0.chg hGl.new
    have dd:=hOl.keep (AY AK) a0.chg fun b hb hm=>hdl b hm hb
    have bs:∀b∈Fo,b∉e4:=fun b hb hm=>(a0.new b hm).elim (hdl b hb) (fun h9=>zH<|hOl.high b hb)
    have bt:=hGl.trans a0
    have af:=CO hvp _ oM _ hvw hqk.2 ar bd.2 ah
    have aj:=af.1
    have b3:=aj.bnd
    have ci:=aj.le
    have cj:=aj.vl
    have ck:=b3.2.1
    have cl:=af.2
    have cm:Bk (r):=by omega
    exact Ac 1 Z<|A1<|Ao<|Af [6] Z (zI r) Z ⟨_,(by first|rfl|(rw[hzr,← g1_];rfl)|(rw[hzr,← g1_])),bt,(by first|exact⟨_,_,_,b1,b2⟩|(rw[← g2_];exact⟨_,_,_,b1,b2⟩))⟩
  refine Ap false Z Z (A6 ay) Aa<|Aj<|Ai Z<|A2<|A0<|ZN [0] Z ?_
  have b4:ex.kind=11:=by clear h11 h10;omega
  have hwl:=J2 hwf b4
  obtain⟨zs,hlp,hzr⟩:=h11 b4
  clear h10 h11
  refine Ac 1 Z<|A3 ?_
  have hMs:=hMl
  have hGs:=hGl.drew
  have bu:=RN.of_ow hOl hdl
  have bv:=hOl.fr.cap
  refine AT (S:=Nat×Value×Sr×List Nat×Tp×Nat×Value×Value×Value) (fun⟨i,vk,ks,S8,T8,s8,dq,vg8,vv8⟩=>([(7,vk),(10,zI (i:Int)),(0,zP g),(1,ve),(9,Aw a6 ((ex.num).toNat) 3)])) (fun⟨i,vk,ks,S8,T8,s8,dq,vg8,vv8⟩ W=>AA S w W∧BX W.heap g [pp,zI ip,dq,vg8,zN,vv8]∧i≤(ex.count).toNat∧Dy S S8 w W∧BG 46 177 2 S8 g W.heap dq vg8 vv8 T8∧RN S8 (B5 rI) W.heap vk ks∧BV vk∧DN ((Gs p F).all (ex.num).toNat) i ys s9 T9=.ok (ks,T8) s8) (fun⟨i,vk,ks,S8,T8,s8,dq,vg8,vv8⟩=>(ex.count).toNat-i) (0,vo,ys,S9,T9,s9,dm,vg9,vv9) ⟨rfl,rfl,rfl,rfl,rfl,trivial⟩ ⟨a1.drew,a2,oM,hGs,hMs,bu,bv,(by rfl)⟩ ?_
  clear a2 a1 bc au ae
  rintro⟨i,vk,ks,S8,T8,s8,dq,vg8,vv8⟩ ρ38 dr ⟨a4,a3,bw,hGm,hMm,hrk,hck,ak⟩
  have cn:w.heap.size≤dr.heap.size:=a4.size
  have de:=a3.lt
  have hqm:=N4 hvp (f:=(ex.num).toNat) oM hF (fun e=>CO hvp _ oM e) hwl.1 _ oM hqk.2 ar bd.2 ak
  have co:=hqm.1.bnd
  have df:=hqm.1.le
  have dl:=hqm.1.vl
  have dg:=hqm.2.2
  refine A0<|ZN [0,0,0,0,2,0] Z<|Ad 2 Z<|AG (hex.isPtr) Z Aa<|AD (p:=ve) 3 CC Z (a7 _ a4) Aa<|Ae (p:=An ve 3) (.inr Z) (zI ex.count) AC Z ((a7 _ a4).ld (i:=3) GZ) Aa ?_
  by_cases b5:(i:Int)<ex.count
  ·
    refine AE true Z Z (A5 b5) Aa<|Aj<|Ah Z<|A2<|A0<|A3<|Ab _ [0,0,0,4,0] Z ?_
    have hkl:i<(ex.count).toNat:=by omega
    obtain⟨z1,T2,s2,ao,dh⟩:=TO hlp hkl ak
    rw[J4 oM]at ao
    have hwm:∀k,k<(p.getD (ex.num).toNat Fn.zero).outs.length→wf p (((ex.num).toNat:Nat):Int) ((p.getD (ex.num).toNat Fn.zero).outs.getD k Ex.zero) (ks.length:Int)=true:=fun k hk=>by rw[dg];exact hvp.wf _ oM k hk
    refine Ad 3 Z<|AI 181 [] [] [zP g,Aw a6 ((ex.num).toNat) 3,vk] Z Z UH Aa (FK _ S8 (ex.num).toNat z1 T2 s2 g pp dp ip p (s8) (T8) dp (Aw a6 ((ex.num).toNat) 3) (p.getD ((ex.num).toNat) Fn.zero) vk (ks) (fun b hb=>(hGm.lt b hb:b<dr.heap.size)) (hGm.sub _ hgS) ⟨_,_,_,a3,hMm⟩ (RN.stp (AX<|AR dp) hp a4 hGm.new) _hip oM co (RN.ptr (Ax dp) (by decide) Fn.zero (RN.stp (Al<|Ax dp) ac a4 hGm.new) oM) hrk hck hvp oM hwm (by intro k hk;have:=hvp.deep (ex.num).toNat oM k hk;omega) oM hqm.2.1 ao (by exact fun d9=>IH1 _ oM d9)) ?_
    rintro eb dx ⟨e6,e8,rfl,a5,⟨dt,vg41,vv41,bx,bz⟩,c0,cp⟩
    refine⟨_,rfl,?_⟩
    have cq:dr.heap.size≤dx.heap.size:=a5.chg.size
    have c1:AA S w dx:=a4.stp a5.chg hGm.new
    have di:=RN.stp g1 hrk a5.chg a5.new
    have c2:=hGm.trans a5
    have b6:=GP _ (fun e _=>CO hvp _ oM e) (Ip hwm) hqm.2.1 co df.2 ao
    have al:=b6.1
    have b7:=al.bnd
    have cr:=al.le
    have cs:=al.vl
    have ct:=b7.2.1
    have cu:=c0.rn
    refine Ac 1 Z<|Ab _ [0,0,0] Z<|Ad 1 Z<|AQ ((i+1:Nat):Int) Z Z (Be oM oM) Aa<|Ac 1 Z ?_
    have hMe:=bz
    have hGe:=c2
    exact⟨(i+1,e6,z1,e8,T2,s2,dt,vg41,vv41),_,rfl,zR,⟨c1,bx,oM,hGe,hMe,(by assumption),(by assumption),dh⟩,zD⟩
  refine AE false Z Z (A6 b5) Aa<|Aj<|Ai Z<|A4<|Ay<|Ay<|At<|ZN [0,0,0,0,2,0,2,0] Z ?_
  obtain⟨g1_,g2_,g3_⟩:=TP hlp oM ak
  refine Ad 2 Z<|AG (hex.isPtr) Z Aa<|AD (p:=ve) 2 Cn Z (a7 _ a4) Aa<|Ae (p:=An ve 2) (.inr Z) (zI ex.pick) AC Z ((a7 _ a4).ld (i:=2) GZ) Aa<|Au (v:=vk) ((ex.pick).toNat) Bl BD Z Z hrk.slL oM oM Aa ?_
  have c3:=RN.getI (w:=dr) (k:=(ex.pick).toNat) hrk oM
  exact Ae (p:=Aw vk ((ex.pick).toNat) 1) (.inr Z) (zI<|ks.getD ((ex.pick).toNat) 0) AC Z (c3.1 _<|AA.refl _ _) Aa<|Ac 1 Z<|A1<|Af [6] Z (zI<|ks.getD ((ex.pick).toNat) 0) Z ⟨_,(by first|rfl|(rw[hzr,← g1_];rfl)|(rw[hzr,← g1_])),hGm,(by first|exact⟨_,_,_,a3,hMm⟩|(rw[← g2_];exact⟨_,_,_,a3,hMm⟩))⟩
theorem Np (w:World)(k:Int)(_hk:Bk k)(hk:3≤k∧k≤6) :
    Calls Tryz.prog 247 #[zI k] w (fun e w'=>e=.returned (zI k)∧w'=w):=by
  refine As [zI k] 10 Tryz.func247 Z Z sM ?_
  have a0:w=w:=rfl
  refine ZO Z<|A0<|ZO Z<|A3<|ZN [0,0] Z ?_
  by_cases a1:k=((3:Nat):Int)
  ·
    exact Ap true Z Z (A5 a1) Aa<|Ac 1 Z<|Ah Z<|ZO Z<|A1<|AH<|Ao<|Af [2] Z (zI ((3:Nat):Int)) Z ⟨AS oM,a0⟩
  refine Ap false Z Z (A6 a1) Aa<|Ac 1 Z<|Ai Z<|ZN [0,0] Z ?_
  by_cases a2:k=((4:Nat):Int)
  ·
    exact Ap true Z Z (A5 a2) Aa<|Ac 1 Z<|Ah Z<|ZO Z<|A1<|AH<|Ao<|Af [2] Z (zI ((4:Nat):Int)) Z ⟨AS oM,a0⟩
  refine Ap false Z Z (A6 a2) Aa<|Ac 1 Z<|Ai Z<|ZN [0,0] Z ?_
  by_cases a3:k=((5:Nat):Int)
  ·
    exact Ap true Z Z (A5 a3) Aa<|Ac 1 Z<|Ah Z<|ZO Z<|A1<|AH<|Ao<|Af [2] Z (zI ((5:Nat):Int)) Z ⟨AS oM,a0⟩
  exact Ap false Z Z (A6 a3) Aa<|Ac 1 Z<|Ai Z<|A2<|ZO Z<|A1<|Af [2] Z (zI ((6:Nat):Int)) Z ⟨AS oM,a0⟩
theorem Nq {p:Prop}(h:p:=by unfold FN;first|rw[if_pos oM]|rw[if_neg oM,if_pos oM]|rw[if_neg oM,if_neg oM,if_pos oM]|rw[if_neg oM,if_neg oM,if_neg oM,if_neg oM]):p:=h
theorem Ki (w:World)(op:Int)(a:Int)(b:Int)(_hop:Bk op)(_ha:Bk a)(_hb:Bk b)(hop:3≤op∧op≤6)(ha:0≤a∧a<1000003)(hb:0≤b∧b<1000003) :
    Calls Tryz.prog 248 #[zI op,zI a,zI b] w (fun e w'=>e=.returned (zI (FN op a b))∧AF w w'):=by
  refine As [zI op,zI a,zI b] 27 Tryz.func248 Z Z sM ?_
  have a0:AF w w:=AF.refl w
  refine ZO Z<|A0<|ZO Z<|A3<|ZN [0,0] Z ?_
  by_cases a1:op=((3:Nat):Int)
  ·
    exact Ap true Z Z (A5 a1) Aa<|Ac 1 Z<|Ah Z<|ZN [0,0,0,0] Z<|Ad 2 Z<|AB 64 [] [] [zI a,zI b] Z Z TX Aa (zI<|md (a+b)) (fun wq=>FW wq _ _ _ha _hb)<|Ac 1 Z<|A1<|AH<|Ao<|Af [6] Z (zI<|md (a+b)) Z ⟨AS Nq,a0⟩
  refine Ap false Z Z (A6 a1) Aa<|Ac 1 Z<|Ai Z<|ZN [0,0] Z ?_
  by_cases a2:op=((4:Nat):Int)
  ·
    exact Ap true Z Z (A5 a2) Aa<|Ac 1 Z<|Ah Z<|ZN [0,0,0,0] Z<|Ad 2 Z<|AB 236 [] [] [zI a,zI b] Z Z UR Aa (zI<|md (a-b)) (fun wq=>H3 wq _ _ _ha _hb oM)<|Ac 1 Z<|A1<|AH<|Ao<|Af [6] Z (zI<|md (a-b)) Z ⟨AS Nq,a0⟩
  refine Ap false Z Z (A6 a2) Aa<|Ac 1 Z<|Ai Z<|ZN [0,0] Z ?_
  by_cases a3:op=((5:Nat):Int)
  ·
    exact Ap true Z Z (A5 a3) Aa<|Ac 1 Z<|Ah Z<|ZN [0,0,0,0] Z<|Ad 2 Z<|AB 63 [] [] [zI a,zI b] Z Z N6 Aa (zI<|md (a*b)) (fun wq=>Co wq _ _ _ha _hb)<|Ac 1 Z<|A1<|AH<|Ao<|Af [6] Z (zI<|md (a*b)) Z ⟨AS Nq,a0⟩
  exact Ap false Z Z (A6 a3) Aa<|Ac 1 Z<|Ai Z<|A2<|ZN [0,0,0,0,0] Z<|Ad 2 Z<|AB 235 [] [] [zI b] Z Z UQ Aa (zI<|inv b) (fun wq=>Id wq _ _hb)<|AB 63 [] [] [zI a,zI<|inv b] Z Z N6 Aa (zI<|md (a*(inv b))) (fun wq=>Co wq _ _ _ha<|MJ _)<|Ac 1 Z<|A1<|Af [6] Z (zI<|md (a*(inv b))) Z ⟨AS Nq,a0⟩
theorem P3 {p:Prop}(h:p:=by unfold maxLen;first|omega|assumption|(simp only[zb,z9,z4,z6,z5];omega)|(simp[zb,z9,z4,z6,z5];done)|(simp[zb,z9,z4,z6,z5];omega)):p:=h
theorem P4 {p:Prop}(h:p:=by have:=CH (l:=ex.kids) (k:=1) oM;rw[z4,zd];omega):p:=h
theorem P5 {p:Prop}(h:p:=by have h9:=Hl hwf oM oM;rw[z4,zd];exact h9):p:=h
theorem P6 {p:Prop}(h:p:=by rw[z4,zd];exact Hl hwf oM oM):p:=h
theorem Nr {p:Prop}(h:p:=by simp only[zc,zf,zh];rfl):p:=h
theorem Ns {p:Prop}(h:p:=by have:=CH (l:=ex.kids) (k:=0) oM;omega):p:=h
theorem IG {p:Prop}(h:p:=by exact BT hwf oM oM):p:=h
theorem EX {p:Prop}(h:p:=by simp[DQ,DU]):p:=h
theorem EY {p:Prop}(h:p:=by exact hvp):p:=h
theorem II (w:World)(S:List Nat)(F:Nat)(r:Int)(T':Tp)(s':Nat)(g:Nat)(pp:Value)(dp:Nat)(ip:Int)(p:List Fn)(s0:Nat)(T:Tp)(dex:Nat)(ve:Value)(ex:Ex)(vv:Value)(env:Sr)(hS:∀b∈S,b<w.heap.size)(hgS:g∈S)(la:T3 46 177 2 S g w.heap pp ip T)(hp:RN S (rP (K4 dp)) w.heap pp p)(_hip:Bk ip)(ju:s0≤3000)(hbd:FT T s0)(hex:RN S (rP (H0 dex)) w.heap ve ex)(henv:RN S (B5 rI) w.heap vv env)(hqenv:BV vv)(hvp:FY p)(hF:F≤p.length)(hwf:wf p (F:Int) ex (env.length:Int)=true)(hdp:env.length+ex.deep≤1000000)(hen:FD T env)(hrg:DV (Gs p F) ex env s0 T=.ok (r,T') s')(IH1:∀F',F'<F→∀d,X2 F' d)(IH2:∀d',d'<dex→X2 F d') :
    Calls Tryz.prog 226 #[zP g,ve,vv] w (fun e w'=>∃S':List Nat,e=.returned (zI r)∧Dy S S' w w'∧T3 46 177 2 S' g w'.heap pp ip T'):=by
  refine As [zP g,ve,vv] 183 Tryz.func226 Z Z sM ?_
  have a2:AA S w w:=AA.refl S w
  have fe:=henv.lenL
  unfold maxLen at fe
  obtain⟨rc0,rg0,rv0,cj,cw⟩:=la
  have n4:=cj.lt
  have a0:Dy S S w w:=Dy.refl hS
  have hdk:=D7 ex
  have hlt:=Hs hrg
  have ap:=hbd.up (s':=s0+1) oM
  have lb:=MN hwf hvp hF
  have lu:=hbd.2.1
  have lv:=hbd.2.2.1
  have hall:=(D0<|CJ hwf).1
  refine ZO Z<|A0<|ZN [0,0,0,2] Z<|Ad 1 Z<|AG (hex.isPtr) Z Aa ?_
  obtain⟨cs1,lc,a8⟩:=RN.at (Aq _) hex
  obtain⟨dd1,a4,lw,rfl,ah⟩:=RX.of lc
  have gu:=ah.rn.lenle
  unfold maxLen at gu
  refine AD (p:=ve) 0 BC Z (a8 _ a2) Aa<|Ae (p:=An ve 0) (.inr Z) (zI ex.kind) AC Z ((a8 _ a2).ld (i:=0) EX) Aa<|Aj<|A3<|ZN [0,0] Z ?_
  by_cases jv:ex.kind=((1:Nat):Int)
  ·
    refine Ap true Z Z (A5 jv) Aa<|Ac 1 Z<|Ah Z<|A0<|AO _ [0,0,0,0,1,0,0,0,0,1,4,0] mixed (by kernel_rfl) ?_
    have hwk:=KN hwf oM
    obtain⟨hre,hTe,_⟩:=Uw hrg oM
    refine Ad 2 Z<|AG (hex.isPtr) Z Aa<|AD (p:=ve) 1 Bw Z (a8 _ a2.drew) Aa<|Ae (p:=An ve 1) (.inl Z) (zI ex.num) AC Z ((a8 _ a2.drew).ld (i:=1) EX) Aa ?_
    have gv:∀(wq:World),(Instr.build 46 #[(0,zI ((2:Nat):Int)),(3,zI ex.num)]).run Tryz.prog wq=.ok (.agg #[zI ((2:Nat):Int),zI 0,zI 0,zI ex.num]) wq:=by intro wq;kernel_rfl
    refine CI (ps:=#[(0,zI ((2:Nat):Int)),(3,zI ex.num)]) (.agg #[zI ((2:Nat):Int),zI 0,zI 0,zI ex.num]) Nr (fun wq=>gv  wq) Aa<|Ad 1 Z<|AG (hex.isPtr) Z Aa<|AD (p:=ve) 1 Bw Z (a8 _ a2.drew) Aa<|Ae (p:=An ve 1) (.inl Z) (zI ex.num) AC Z ((a8 _ a2.drew).ld (i:=1) EX) Aa ?_
    refine AI 180 [] [] [zP g,.agg #[zI ((2:Nat):Int),zI (0:Int),zI (0:Int),zI ex.num],zI ex.num] Z Z PT Aa (Dh _ S g pp ip (T) (⟨((2:Nat):Int),(0:Int),(0:Int),ex.num⟩:Az) (ex.num) (fun b hb=>(a0.drew.lt b hb:b<w.heap.size)) (a0.drew.sub _ hgS) ⟨_,_,_,cj,cw⟩ _hip (hbd.ln oM) hbd.1 ⟨(show Bk ((2:Nat):Int)from by omega),(show Bk (0:Int)from by omega),(show Bk (0:Int)from by omega),ah.rng.num⟩ ah.rng.num) ?_
    rintro e4 w4 ⟨S4,rfl,bj,n5,vg4,vv4,lf,lg⟩
    refine⟨_,rfl,?_⟩
    replace bj:=bj.of_drew
    have lh:w.heap.size≤w4.heap.size:=bj.chg.size
    have lx:AA S w w4:=a2.stp bj.chg a0.new
    have li:=a0.trans bj
    exact Ac 1 Z<|A1<|AH<|Ao<|Af [6] Z (zI (T.vals.length:Int)) Z ⟨_,(by rw[hre]),li,(by rw[hTe];exact⟨_,_,_,lf,lg⟩)⟩
  refine Ap false Z Z (A6 jv) Aa<|Ac 1 Z<|Ai Z<|ZN [0,0] Z ?_
  by_cases dx:ex.kind=((2:Nat):Int)
  ·
    refine Ap true Z Z (A5 dx) Aa<|Ac 1 Z<|Ah Z<|ZN [0,0,0,0,2,0,2,0] Z ?_
    have hwk:=KO hwf oM
    have hRv:=hen ex.num.toNat oM
    obtain⟨hre,hTe,_⟩:=Ux hrg oM
    refine Ad 2 Z<|AG (hex.isPtr) Z Aa<|AD (p:=ve) 1 Bw Z (a8 _ a2) Aa<|Ae (p:=An ve 1) (.inr Z) (zI ex.num) AC Z ((a8 _ a2).ld (i:=1) EX) Aa<|Au (v:=vv) ((ex.num).toNat) Bl BD Z Z henv.slL oM oM Aa ?_
    have gw:=RN.getI (w:=w) (k:=(ex.num).toNat) henv oM
    exact Ae (p:=Aw vv ((ex.num).toNat) 1) (.inr Z) (zI<|env.getD ((ex.num).toNat) 0) AC Z (gw.1 _ a2) Aa<|Ac 1 Z<|A1<|AH<|Ao<|Af [6] Z (zI<|env.getD ((ex.num).toNat) 0) Z ⟨_,(by rw[hre]),a0,(by rw[hTe];exact⟨_,_,_,cj,cw⟩)⟩
  refine Ap false Z Z (A6 dx) Aa<|Ac 1 Z<|Ai Z<|ZN [0,0] Z ?_
  by_cases dy:ex.kind=((7:Nat):Int)
  ·
    refine Ap true Z Z (A5 dy) Aa<|Ac 1 Z<|Ah Z<|ZN [0,0,0,0,2,0,0,4,0] Z ?_
    have hwk:=MM hwf oM
    obtain⟨a1,T1,s1,h1,hre,hTe,_⟩:=Xs hrg oM hwk
    refine Ad 2 Z<|AG (hex.isPtr) Z Aa<|AD (p:=ve) 4 B8 Z (a8 _ a2) Aa<|Ae (p:=An ve 4) (.inr Z) a4 Ba Z ((a8 _ a2).ld (i:=4) EX) Aa<|Au (v:=a4) 0 CB Bf Z Z ah.rn.isSl Z sD Aa<|Ad 1 Z ?_
    refine AI 226 [] [] [zP g,Aw a4 0 5,vv] Z Z Gw Aa (IH2 dd1 oM _ S g pp dp ip p (s0+1) (T) (Aw a4 0 5) (ex.kids.getD 0 Ex.zero) vv (env) a1 T1 s1 (fun b hb=>(a0.lt b hb:b<w.heap.size)) (a0.sub _ hgS) ⟨_,_,_,cj,cw⟩ (RN.stp (AX<|AR dp) hp a2 a0.new) _hip oM ap (RN.ptr (Aq dd1) (by decide) Ex.zero (RN.stp (Al<|Aq dd1) ah.rn a2 a0.new) sD) (RN.stp g1 henv a2 a0.new) hqenv EY oM IG Ns hen h1) ?_
    rintro n6 fq ⟨mh,rfl,bk,mi,vg14,vv14,dz,ck⟩
    refine⟨_,rfl,?_⟩
    have jw:w.heap.size≤fq.heap.size:=bk.chg.size
    have gx:AA S w fq:=a2.stp bk.chg a0.new
    have cl:=a0.trans bk
    have cx:=CO hvp F hF _ (BT hwf oM oM) (hen) ap hlt h1
    have dc:=cx.1
    have b6:=dc.bnd
    have jx:=dc.le
    have jy:=dc.vl
    have jz:=b6.2.1
    have k0:=cx.2
    have e0:Bk (a1):=by omega
    refine Ac 1 Z<|ZN [0,0,0,0,0,0,2,0,0,2,0,4,0] Z ?_
    have hat:=BY b6.2.2.2 a1.toNat
    refine Ad 2 Z ?_
    have e1:∀(wq:World),(Instr.build 46 #[(0,zI ((7:Nat):Int)),(1,zI a1)]).run Tryz.prog wq=.ok (.agg #[zI ((7:Nat):Int),zI a1,zI 0,zI 0]) wq:=by intro wq;kernel_rfl
    refine CI (ps:=#[(0,zI ((7:Nat):Int)),(1,zI a1)]) (.agg #[zI ((7:Nat):Int),zI a1,zI 0,zI 0]) Nr (fun wq=>e1  wq) Aa<|Ad 1 Z<|Bb Z Aa<|Ak (p:=zP g) 5 HY Z Z Aa<|Ae (p:=An (zP g) 5) (.inr Z) vv14 AZ Z (dz.ldp (i:=5) sM) Aa<|Ad 1 Z<|Au (v:=vv14) ((a1).toNat) Bl BD Z Z (BG.slv ck) oM oM Aa (Ae (p:=Aw vv14 ((a1).toNat) 1) (.inr Z) (zI<|T1.vals.getD ((a1).toNat) 0) AC Z ((BG.rdv ck).getI oM).1 Aa ?_)
    refine AB 245 [] [] [zI<|T1.vals.getD ((a1).toNat) 0] Z Z Yo Aa (zI<|md (-(T1.vals.getD ((a1).toNat) 0))) (fun wq=>LV wq _ ((BG.rdv ck).getI oM).2 oM)<|AI 180 [] [] [zP g,.agg #[zI ((7:Nat):Int),zI a1,zI (0:Int),zI (0:Int)],zI<|md (-(T1.vals.getD ((a1).toNat) 0))] Z Z PT Aa (Dh _ mh g pp ip (T1) (⟨((7:Nat):Int),a1,(0:Int),(0:Int)⟩:Az) (md (-(T1.vals.getD ((a1).toNat) 0))) (fun b hb=>(cl.lt b hb:b<fq.heap.size)) (cl.sub _ hgS) ⟨_,_,_,dz,ck⟩ _hip (b6.ln oM) b6.1 ⟨(show Bk ((7:Nat):Int)from by omega),e0,(show Bk (0:Int)from by omega),(show Bk (0:Int)from by omega)⟩<|Ei _) ?_
    rintro n7 m0 ⟨n8,rfl,bl,mj,vg23,vv23,gy,gz⟩
    refine⟨_,rfl,?_⟩
    have k1:fq.heap.size≤m0.heap.size:=bl.chg.size
    have lj:AA S w m0:=gx.stp bl.chg cl.new
    have i0:=cl.trans bl
    exact Ac 1 Z<|A1<|AH<|Ao<|Af [6] Z (zI (T1.vals.length:Int)) Z ⟨_,(by rw[hre]),i0,(by rw[hTe];exact⟨_,_,_,gy,gz⟩)⟩
  refine Ap false Z Z (A6 dy) Aa<|Ac 1 Z<|Ai Z<|ZN [0,0] Z ?_
  by_cases e2:ex.kind=((8:Nat):Int)
  ·
    refine Ap true Z Z (A5 e2) Aa<|Ac 1 Z<|Ah Z<|ZN [0,0,0,0,2,0,0,4,0] Z ?_
    have hwk:=NU hwf oM
    obtain⟨a1,T1,s1,h1,h2,h3⟩:=Uy hrg oM hwk
    refine Ad 2 Z<|AG (hex.isPtr) Z Aa<|AD (p:=ve) 4 B8 Z (a8 _ a2) Aa<|Ae (p:=An ve 4) (.inr Z) a4 Ba Z ((a8 _ a2).ld (i:=4) EX) Aa<|Au (v:=a4) 0 CB Bf Z Z ah.rn.isSl Z sD Aa<|Ad 1 Z ?_
    refine AI 226 [] [] [zP g,Aw a4 0 5,vv] Z Z Gw Aa (IH2 dd1 oM _ S g pp dp ip p (s0+1) (T) (Aw a4 0 5) (ex.kids.getD 0 Ex.zero) vv (env) a1 T1 s1 (fun b hb=>(a0.lt b hb:b<w.heap.size)) (a0.sub _ hgS) ⟨_,_,_,cj,cw⟩ (RN.stp (AX<|AR dp) hp a2 a0.new) _hip oM ap (RN.ptr (Aq dd1) (by decide) Ex.zero (RN.stp (Al<|Aq dd1) ah.rn a2 a0.new) sD) (RN.stp g1 henv a2 a0.new) hqenv EY oM IG Ns hen h1) ?_
    rintro n9 f7 ⟨m1,rfl,bm,ff,vg32,vv32,dd,cm⟩
    refine⟨_,rfl,?_⟩
    have k2:w.heap.size≤f7.heap.size:=bm.chg.size
    have e3:AA S w f7:=a2.stp bm.chg a0.new
    have de:=a0.trans bm
    have cy:=CO hvp F hF _ (BT hwf oM oM) (hen) ap hlt h1
    have df:=cy.1
    have bn:=df.bnd
    have k3:=df.le
    have e5:=df.vl
    have k4:=bn.2.1
    have k5:=cy.2
    have e6:Bk (a1):=by omega
    have hq1v:=e5
    refine Ac 1 Z<|ZN [0,0,0,2,0,0,2,0,0] Z<|Ad 1 Z<|Bb Z Aa<|Ak (p:=zP g) 5 HY Z Z Aa<|Ae (p:=An (zP g) 5) (.inr Z) vv32 AZ Z (dd.ldp (i:=5) sM) Aa<|Ad 1 Z<|Au (v:=vv32) ((a1).toNat) Bl BD Z Z (BG.slv cm) oM oM Aa (Ae (p:=Aw vv32 ((a1).toNat) 1) (.inr Z) (zI<|T1.vals.getD ((a1).toNat) 0) AC Z ((BG.rdv cm).getI oM).1 Aa (Ap (decide (T1.vals.getD ((a1).toNat) 0=((0:Nat):Int))) Z Z Z Aa<|Ac 1 Z<|A0 ?_))
    obtain⟨Fc39,Fg39,Fv39,bo,e7,bp,aq,b7,e8,cz,e9⟩:=id cm
    refine Ab _ [0,0,0,0,0,2,0,0,0,3,4,0,0,0,4] Z<|Ad 2 Z<|Bb Z Aa<|Ak (p:=zP g) 1 FV Z Z Aa<|Ak (p:=An (zP g) 1) (b:=g) (o:=1) 2 GQ Z Z Aa<|Ae (p:=An (An (zP g) 1) 2) (.inr Z) vg32 Lk Z (dd.ldp (i:=3) sM) Aa<|Ad 2 Z ?_
    have ea:∀(wq:World),(Instr.build 177 #[(0,zI a1),(1,.bool (decide (T1.vals.getD ((a1).toNat) 0=((0:Nat):Int))))]).run Tryz.prog wq=.ok (.agg #[zI a1,.bool (decide (T1.vals.getD ((a1).toNat) 0=((0:Nat):Int)))]) wq:=by intro wq;kernel_rfl
    refine CI (ps:=#[(0,zI a1),(1,.bool<|decide (T1.vals.getD ((a1).toNat) 0=((0:Nat):Int)))]) (.agg #[zI a1,.bool<|decide (T1.vals.getD ((a1).toNat) 0=((0:Nat):Int))]) Nr (fun wq=>ea  wq) Aa (KH (cs:=[zI a1,.bool<|decide (T1.vals.getD ((a1).toNat) 0=((0:Nat):Int))]) (y:=(⟨a1,decide (T1.vals.getD ((a1).toNat) 0=((0:Nat):Int))⟩:Gr)) (B:=f7.heap.size) B6 T5 JE Z (by decide) Z (Re (x:=(⟨a1,decide (T1.vals.getD ((a1).toNat) 0=((0:Nat):Int))⟩:Gr)) (B:=f7.heap.size) (U:=f7.heap.size) e6) (A7 _) Aa fun ml fu a5 lk i1=>?_)
    have k6:f7.heap.size≤fu.heap.size:=a5.size
    have ll:AA S w fu:=e3.ext a5
    have cn:=dd.ext a5
    have lm:=(BG.rdv cm).ext g1 a5
    have i2:=de.ext a5
    have hOc39x:=bo.ext (Av AW) a5
    have hOg39x:=e7.ext (Av B6) a5
    have hOv39x:=bp.ext (AY AK) a5
    refine JA (v:=vg32) (a:=ml) B6 T5 JE Z (by decide) Z Z hOg39x i1 (A7 _) (Nat.zero_le _) (Nat.zero_le _) oM (by unfold maxLen;omega) Aa fun m2 f8 m3 bq eb co=>?_
    have ec:fu.heap.size≤f8.heap.size:=bq.size
    obtain⟨fs,d0⟩:∃l:List Nat,l=m3++m1:=⟨_,rfl⟩
    have br:Dy m1 fs f7 f8:=by rw[d0];exact⟨fun b hb=>z1 _ hb,fun b hb=>by rcases zi.1 hb with hb|hb;(rcases co b hb with h9|h9|h9;exact .inl (cz b h9);(have:=a5.size;omega);(have:=a5.size;omega));exact .inl hb,fun b hb=>by rcases zi.1 hb with hb|hb;exact eb.high b hb;(have:=i2.lt b hb;omega),(AA.of_ext _ a5).trans (bq.sub cz)⟩
    have ed:BG 46 177 2 fs g f8.heap ff m2 vv32 (T1.guard (a1) (decide (T1.vals.getD ((a1).toNat) 0=((0:Nat):Int)))):=⟨Fc39,m3,Fv39,(hOc39x.up a5.size).chgS (Av AW) bq (fun b hb hm=>aq.1 b hm hb),eb,(hOv39x.up a5.size).chgS (AY AK) bq (fun b hb hm=>aq.2.2 b hb hm),⟨fun b hb hm=>by rcases co b hm with h9|h9|h9;exact aq.1 b hb h9;(have:=bo.high b hb;omega);(have:=bo.high b hb;have:=a5.size;omega),aq.2.1,fun b hm hb=>by rcases co b hm with h9|h9|h9;exact aq.2.2 b h9 hb;(have:=bp.high b hb;omega);(have:=bp.high b hb;have:=a5.size;omega)⟩,⟨b7.1,fun hm=>by rcases co g hm with h9|h9|h9;exact b7.2.1 h9;omega;omega,b7.2.2⟩,by rw[d0];exact⟨fun b hb=>z1 _ (e8 b hb),fun b hb=>z8 _ hb,fun b hb=>z1 _ (e9 b hb)⟩⟩
    have i3:=cn.chg bq b7.2.1
    have ec:f7.heap.size≤f8.heap.size:=br.chg.size
    have i4:AA S w f8:=e3.stp br.chg de.new
    have i5:=de.trans br
    have k7:(T1.guard (a1) (decide (T1.vals.getD ((a1).toNat) 0=((0:Nat):Int)))).vals.length=T1.vals.length:=rfl
    have k8:(T1.guard (a1) (decide (T1.vals.getD ((a1).toNat) 0=((0:Nat):Int)))).grd.length=T1.grd.length+1:=KZ _ _ _
    refine Bb Z Aa<|Ak (p:=zP g) 1 FV Z Z Aa<|Ak (p:=An (zP g) 1) (b:=g) (o:=1) 2 GQ Z Z Aa (BH (k:=3) (w:=f8) Yz Z Z (Bn ed.slg) i3 sM Aa fun f9 cp lo cq=>?_)
    replace cq:BX f9.heap g [pp,zI ip,ff,m2,zN,vv32]:=cq
    have aa:AA S w f9:=i4.trans (cp.sub (B2 hgS))
    have ee:=BG.chg ed cp
    have a6:=i5.set hgS cp
    have k9:f8.heap.size≤f9.heap.size:=cp.size
    refine Aj<|A0<|ZN [0] Z<|Ac 1 Z ?_
    cases cr:(decide (T1.vals.getD ((a1).toNat) 0=((0:Nat):Int)))
    ·
      have ka:=of_decide_eq_false cr
      refine Ai (by first|rfl|exact zW cr)<|A2<|ZN [0,0,0,0,2,0,0,4,0] Z ?_
      have hbg:FT (T1.guard (a1) (decide (T1.vals.getD ((a1).toNat) 0=((0:Nat):Int)))) s1:=FT.guard bn _ _ oM
      have ax:=h3 (by assumption)
      rw[← A6 (by assumption:¬T1.vals.getD (a1).toNat 0=0)]at ax
      refine Ad 2 Z<|AG (hex.isPtr) Z Aa<|AD (p:=ve) 4 B8 Z (a8 _ aa) Aa<|Ae (p:=An ve 4) (.inr Z) a4 Ba Z ((a8 _ aa).ld (i:=4) EX) Aa<|Au (v:=a4) 2 CB Bf Z Z ah.rn.isSl Z sD Aa<|Ad 1 Z ?_
      refine AI 226 [] [] [zP g,Aw a4 2 5,vv] Z Z Gw Aa (IH2 dd1 oM _ fs g pp dp ip p (s1) (T1.guard (a1)<|decide (T1.vals.getD ((a1).toNat) 0=((0:Nat):Int))) (Aw a4 2 5) (ex.kids.getD 2 Ex.zero) vv (env) r T' s' (fun b hb=>(a6.lt b hb:b<f9.heap.size)) (a6.sub _ hgS) ⟨_,_,_,cq,ee⟩ (RN.stp (AX<|AR dp) hp aa a6.new) _hip oM hbg (RN.ptr (Aq dd1) (by decide) Ex.zero (RN.stp (Al<|Aq dd1) ah.rn aa a6.new) sD) (RN.stp g1 henv aa a6.new) hqenv EY oM IG (zH<|CH (l:=ex.kids) (k:=2) oM) (by exact hen.mono (by simp only[Gt];omega)) ax) ?_
      rintro na m4 ⟨nb,rfl,bs,mm,vg59,vv59,i6,i7⟩
      refine⟨_,rfl,?_⟩
      have kb:f9.heap.size≤m4.heap.size:=bs.chg.size
      have lp:AA S w m4:=aa.stp bs.chg a6.new
      have i8:=a6.trans bs
      have d1:=CO hvp F hF _ (BT hwf oM oM) (hen.mono (by simp only[Gt];omega)) hbg oM ax
      have dg:=d1.1
      have ef:=dg.bnd
      have kc:=dg.le
      have kd:=dg.vl
      have ke:=ef.2.1
      have kf:=d1.2
      have kg:Bk (r):=by omega
      exact Ac 1 Z<|A1<|AH<|Ao<|Af [6] Z (zI r) Z ⟨_,(by rfl),i8,(by exact⟨_,_,_,i6,i7⟩)⟩
    have kh:=of_decide_eq_true cr
    refine Ah (by first|rfl|exact zW cr)<|ZN [0,0,0,0,2,0,0,4,0] Z ?_
    have hbg:FT (T1.guard (a1) (decide (T1.vals.getD ((a1).toNat) 0=((0:Nat):Int)))) s1:=FT.guard bn _ _ oM
    have ax:=h2 (by assumption)
    rw[← A5 (by assumption:T1.vals.getD (a1).toNat 0=0)]at ax
    refine Ad 2 Z<|AG (hex.isPtr) Z Aa<|AD (p:=ve) 4 B8 Z (a8 _ aa) Aa<|Ae (p:=An ve 4) (.inr Z) a4 Ba Z ((a8 _ aa).ld (i:=4) EX) Aa<|Au (v:=a4) 1 CB Bf Z Z ah.rn.isSl Z sD Aa<|Ad 1 Z ?_
    refine AI 226 [] [] [zP g,Aw a4 1 5,vv] Z Z Gw Aa (IH2 dd1 oM _ fs g pp dp ip p (s1) (T1.guard (a1)<|decide (T1.vals.getD ((a1).toNat) 0=((0:Nat):Int))) (Aw a4 1 5) (ex.kids.getD 1 Ex.zero) vv (env) r T' s' (fun b hb=>(a6.lt b hb:b<f9.heap.size)) (a6.sub _ hgS) ⟨_,_,_,cq,ee⟩ (RN.stp (AX<|AR dp) hp aa a6.new) _hip oM hbg (RN.ptr (Aq dd1) (by decide) Ex.zero (RN.stp (Al<|Aq dd1) ah.rn aa a6.new) sD) (RN.stp g1 henv aa a6.new) hqenv EY oM IG (zH<|CH (l:=ex.kids) (k:=1) oM) (by exact hen.mono (by simp only[Gt];omega)) ax) ?_
    rintro nc m5 ⟨nd,rfl,bt,mn,vg68,vv68,i9,ia⟩
    refine⟨_,rfl,?_⟩
    have ki:f9.heap.size≤m5.heap.size:=bt.chg.size
    have lq:AA S w m5:=aa.stp bt.chg a6.new
    have ib:=a6.trans bt
    have d2:=CO hvp F hF _ (BT hwf oM oM) (hen.mono (by simp only[Gt];omega)) hbg oM ax
    have dh:=d2.1
    have eg:=dh.bnd
    have kj:=dh.le
    have kk:=dh.vl
    have kl:=eg.2.1
    have km:=d2.2
    have kn:Bk (r):=by omega
    exact Ac 1 Z<|A1<|Ao<|AH<|Ao<|Af [6] Z (zI r) Z ⟨_,(by rfl),ib,(by exact⟨_,_,_,i9,ia⟩)⟩
  refine Ap false Z Z (A6 e2) Aa<|Ac 1 Z<|Ai Z<|ZN [0,0] Z ?_
  by_cases eh:ex.kind=((9:Nat):Int)
  ·
    refine Ap true Z Z (A5 eh) Aa<|Ac 1 Z<|Ah Z<|ZN [0,0,0,0,2,0,0,4,0] Z ?_
    have hwk:=KP hwf oM
    obtain⟨a1,T1,s1,h1,h2⟩:=Uz hrg oM hwk
    refine Ad 2 Z<|AG (hex.isPtr) Z Aa<|AD (p:=ve) 4 B8 Z (a8 _ a2) Aa<|Ae (p:=An ve 4) (.inr Z) a4 Ba Z ((a8 _ a2).ld (i:=4) EX) Aa<|Au (v:=a4) 0 CB Bf Z Z ah.rn.isSl Z sD Aa<|Ad 1 Z ?_
    refine AI 226 [] [] [zP g,Aw a4 0 5,vv] Z Z Gw Aa (IH2 dd1 oM _ S g pp dp ip p (s0+1) (T) (Aw a4 0 5) (ex.kids.getD 0 Ex.zero) vv (env) a1 T1 s1 (fun b hb=>(a0.lt b hb:b<w.heap.size)) (a0.sub _ hgS) ⟨_,_,_,cj,cw⟩ (RN.stp (AX<|AR dp) hp a2 a0.new) _hip oM ap (RN.ptr (Aq dd1) (by decide) Ex.zero (RN.stp (Al<|Aq dd1) ah.rn a2 a0.new) sD) (RN.stp g1 henv a2 a0.new) hqenv EY oM IG Ns hen h1) ?_
    rintro nf f1 ⟨f2,rfl,bu,mo,vg77,vv77,ei,ej⟩
    refine⟨_,rfl,?_⟩
    have ko:w.heap.size≤f1.heap.size:=bu.chg.size
    have bv:AA S w f1:=a2.stp bu.chg a0.new
    have bc:=a0.trans bu
    have d3:=CO hvp F hF _ (BT hwf oM oM) (hen) ap hlt h1
    have di:=d3.1
    have ar:=di.bnd
    have ek:=di.le
    have el:=di.vl
    have kp:=ar.2.1
    have em:=d3.2
    have bw:Bk (a1):=by omega
    have hRa:=em
    have hbA:=ar
    have hlA:=ek
    have hvA:=el
    refine Ac 1 Z<|A0 ?_
    letI:JR:=aB f1.heap.size
    refine Jx.Xb _ [0,0,0,0,1,0,0,3,0,3,3,4,0] [0,1,2,3,4,5,6,8] 7 9 [10,11,12] 9 [10,11,12] 9 [7,10,11,12] [_,_,_,_,_,_,_,_] [0,0,0,0,1,0,0,0] _ _ [_,_,_] [3,4,0] _ [_,_,_] [3,4,0] _ [_,_,_,_] [3,3,4,0] mixed (by kernel_rfl) ⟨rfl,rfl,⟨rfl,rfl,⟨rfl,rfl,⟨rfl,rfl,⟨rfl,rfl,⟨rfl,rfl,⟨rfl,rfl,⟨rfl,rfl,trivial⟩⟩⟩⟩⟩⟩⟩⟩ ⟨rfl,rfl,trivial⟩ ⟨rfl,rfl,⟨rfl,rfl,⟨rfl,rfl,⟨rfl,rfl,trivial⟩⟩⟩⟩ ⟨rfl,rfl,⟨rfl,rfl,⟨rfl,rfl,⟨rfl,rfl,trivial⟩⟩⟩⟩ ⟨rfl,rfl,⟨rfl,rfl,⟨rfl,rfl,⟨rfl,rfl,⟨rfl,rfl,trivial⟩⟩⟩⟩⟩<|Jx.V6 (zP g) Z Aa<|Jx.V6 ve Z Aa<|Jx.j1<|AG (hex.isPtr) Z Aa<|Aj<|Jx.j1<|AD (p:=ve) 4 B8 Z (a8 _ bv.drew) Aa<|Aj ?_
    refine Jx.YX (p:=An ve 4) a4 Ba Z (fun wj hj=>by obtain⟨F9,h8,h9⟩:=hj;exact(a8 _<|AA.fresh bv.drew h9 fun c hc=>zH<|h8 c hc).ld (i:=4) (by simp[DQ])) Aa<|Jx.j1<|Au (v:=a4) 1 CB Bf Z Z ah.rn.isSl Z sD Aa<|Aj<|Jx.V6 vv Z Aa<|Jx.V6 (zI a1) Z Aa<|Jx.Aj ⟨?_,?_⟩
    ·
      refine Jx.Z6<|Am 83 [] [] [vv] Z Z Lf Aa (BP _ _ _ (RN.stp g1 henv bv.drew bc.drew.new).rd sD) ?_
      rintro ng f0 ⟨d4,rfl,au,ao⟩
      refine⟨_,rfl,au,?_⟩
      replace au:=au.of_drew
      have kq:f1.heap.size≤f0.heap.size:=au.size
      have en:AA S w f0:=bv.ext au
      have b8:=ei.ext au
      have eo:=BG.ext ej au
      have ep:=bc.ext au
      replace ao:=ao.low (B':=f1.heap.size)<|A7 _
      refine Aj<|Jx.Aj ⟨?_,?_⟩
      ·
        refine Jx.Z6 ?_
        refine (By (u:=zI a1) (B:=f0.heap.size) AK Bl BD Z Z (Mb f0.heap.size f0.heap.size _ _ bw) (A7 _) Aa ?_)
        intro mp fv bd lr ic
        have kr:f0.heap.size≤fv.heap.size:=bd.size
        have ie:AA S w fv:=en.ext bd
        have ct:=b8.ext bd
        have be:=ao.ext (o1) bd
        have ig:=BG.ext eo bd
        have eq:=ep.ext bd
        refine Aj ?_
        obtain⟨Fo0,a3⟩:=Ow.of_fr be (A7 _)
        have av:∀b∈Fo0,b∉f2:=fun b hb hm=>by have:=a3.low b hb;have:=bc.lt b hm;omega
        refine Jx.ZR (ER (v:=d4) (a:=mp) Bl BD Z Z Z a3 ic.rd1 oM sD P3 Aa fun m6 ft m7 bf cu ih=>?_)
        have ks:fv.heap.size≤ft.heap.size:=bf.size
        have dj:AA S w ft:=ie.fresh bf (fun c hc=>zH<|a3.low c hc)
        have dk:∀b∈m7,b∉f2:=fun b hb hm=>(ih b hb).elim (fun h9=>av b h9 hm) (fun h9=>zH<|eq.lt b hm)
        have ii:=BG.chgO ig bf av
        have bg:=eq.fresh bf fun c hc=>zH<|a3.low c hc
        have ij:=ct.chg bf fun hm=>zH<|a3.low _ hm
        refine Aj ⟨⟨_,fun c hc=>zH<|a3.low c hc,bf⟩,?_⟩
        refine Jx.Tr Z ?_
        refine AI 226 [] [] [zP g,Aw a4 1 5,m6] Z Z Gw Aa (IH2 dd1 oM _ f2 g pp dp ip p (s1) (T1) (Aw a4 1 5) (ex.kids.getD 1 Ex.zero) m6 (env++[a1]) r T' s' (fun b hb=>(bg.lt b hb:b<ft.heap.size)) (bg.sub _ hgS) ⟨_,_,_,ij,ii⟩ (RN.stp (AX<|AR dp) hp dj bg.new) _hip oM ar (RN.ptr (Aq dd1) (by decide) Ex.zero (RN.stp (Al<|Aq dd1) ah.rn dj bg.new) sD) (RN.of_ow cu dk) cu.fr.cap EY oM P5 P4 (by exact FD.snoc (hen.mono oM) hRa) h2) ?_
        rintro nh m8 ⟨mq,rfl,aw,mr,vg95,vv95,ik,il⟩
        refine⟨_,rfl,?_⟩
        have kt:ft.heap.size≤m8.heap.size:=aw.chg.size
        have ls:AA S w m8:=dj.stp aw.chg bg.new
        have ku:=cu.keep (AY AK) aw.chg fun b hb hm=>dk b hm hb
        have gr:∀b∈m7,b∉mq:=fun b hb hm=>(aw.new b hm).elim (dk b hb) (fun h9=>zH<|cu.high b hb)
        have im:=bg.trans aw
        have d5:=CO hvp F hF _ P6 (FD.snoc (hen.mono oM) hRa) hbA hlA.2 h2
        have dl:=d5.1
        have er:=dl.bnd
        have kv:=dl.le
        have kw:=dl.vl
        have kx:=er.2.1
        have ky:=d5.2
        have kz:Bk (r):=by omega
        exact Ac 1 Z<|A1<|AH<|Ao<|Af [6] Z (zI r) Z ⟨_,(by rfl),im,(by exact⟨_,_,_,ik,il⟩)⟩
      refine Jx.Z6 ?_
      refine (By (u:=zI a1) (B:=f0.heap.size) AK Bl BD Z Z (Mb f0.heap.size f0.heap.size _ _ bw) (A7 _) Aa ?_)
      intro fw fa ai l0 es
      have io:f0.heap.size≤fa.heap.size:=ai.size
      have et:AA S w fa:=en.ext ai
      have bx:=b8.ext ai
      have ay:=ao.ext (o1) ai
      have eu:=BG.ext eo ai
      have d6:=ep.ext ai
      refine Aj ?_
      obtain⟨Fo0,a3⟩:=Ow.of_fr ay (A7 _)
      have av:∀b∈Fo0,b∉f2:=fun b hb hm=>by have:=a3.low b hb;have:=bc.lt b hm;omega
      refine Jx.ZR (ER (v:=d4) (a:=fw) Bl BD Z Z Z a3 es.rd1 oM sD P3 Aa fun fg f3 fh aj b9 ev=>?_)
      have iq:fa.heap.size≤f3.heap.size:=aj.size
      have bz:AA S w f3:=et.fresh aj (fun c hc=>zH<|a3.low c hc)
      have c0:∀b∈fh,b∉f2:=fun b hb hm=>(ev b hb).elim (fun h9=>av b h9 hm) (fun h9=>zH<|d6.lt b hm)
      have ew:=BG.chgO eu aj av
      have ak:=d6.fresh aj fun c hc=>zH<|a3.low c hc
      have ey:=bx.chg aj fun hm=>zH<|a3.low _ hm
      refine Aj ⟨⟨_,fun c hc=>zH<|a3.low c hc,aj⟩,?_⟩
      refine Jx.Tr Z ?_
      refine AI 226 [] [] [zP g,Aw a4 1 5,fg] Z Z Gw Aa (IH2 dd1 oM _ f2 g pp dp ip p (s1) (T1) (Aw a4 1 5) (ex.kids.getD 1 Ex.zero) fg (env++[a1]) r T' s' (fun b hb=>(ak.lt b hb:b<f3.heap.size)) (ak.sub _ hgS) ⟨_,_,_,ey,ew⟩ (RN.stp (AX<|AR dp) hp bz ak.new) _hip oM ar (RN.ptr (Aq dd1) (by decide) Ex.zero (RN.stp (Al<|Aq dd1) ah.rn bz ak.new) sD) (RN.of_ow b9 c0) b9.fr.cap EY oM P5 P4 (by exact FD.snoc (hen.mono oM) hRa) h2) ?_
      rintro ms fi ⟨fx,rfl,ab,m9,vg112,vv112,ez,g0⟩
      refine⟨_,rfl,?_⟩
      have ir:f3.heap.size≤fi.heap.size:=ab.chg.size
      have l1:AA S w fi:=bz.stp ab.chg ak.new
      have l2:=b9.keep (AY AK) ab.chg fun b hb hm=>c0 b hm hb
      have gs:∀b∈fh,b∉fx:=fun b hb hm=>(ab.new b hm).elim (c0 b hb) (fun h9=>zH<|b9.high b hb)
      have g2:=ak.trans ab
      have c1:=CO hvp F hF _ P6 (FD.snoc (hen.mono oM) hRa) hbA hlA.2 h2
      have c2:=c1.1
      have dm:=c2.bnd
      have is:=c2.le
      have it:=c2.vl
      have iu:=dm.2.1
      have iv:=c1.2
      have iw:Bk (r):=by omega
      exact Ac 1 Z<|A1<|AH<|Ao<|Af [6] Z (zI r) Z ⟨_,(by rfl),g2,(by exact⟨_,_,_,ez,g0⟩)⟩
    refine Jx.Z6 ?_
    refine (By (u:=zI a1) (B:=f1.heap.size) AK Bl BD Z Z (Mb f1.heap.size f1.heap.size _ _ bw) (A7 _) Aa ?_)
    intro fy fb ac l3 g3
    replace ac:=ac.of_drew
    have ix:f1.heap.size≤fb.heap.size:=ac.size
    have d7:AA S w fb:=bv.ext ac
    have c3:=ei.ext ac
    have g4:=BG.ext ej ac
    have d8:=bc.ext ac
    refine Aj<|Jx.Z6<|Am 83 [] [] [vv] Z Z Lf Aa (BP _ _ _ (RN.stp g1 henv d7 d8.new).rd sD) ?_
    rintro mt fc ⟨dn,rfl,ad,cv⟩
    refine⟨_,rfl,ad,?_⟩
    have iy:fb.heap.size≤fc.heap.size:=ad.size
    have g5:AA S w fc:=d7.ext ad
    have c4:=c3.ext ad
    have bh:=g3.ext (o1) ad
    have g6:=BG.ext g4 ad
    have d9:=d8.ext ad
    refine Aj ?_
    obtain⟨Fo0,a3⟩:=Ow.of_fr cv (A7 _)
    have av:∀b∈Fo0,b∉f2:=fun b hb hm=>by have:=a3.low b hb;have:=bc.lt b hm;omega
    refine Jx.ZR (ER (v:=dn) (a:=fy) Bl BD Z Z Z a3 bh.rd1 oM sD P3 Aa fun fj f4 fk al ba g7=>?_)
    have iz:fc.heap.size≤f4.heap.size:=al.size
    have c5:AA S w f4:=g5.fresh al (fun c hc=>zH<|a3.low c hc)
    have c6:∀b∈fk,b∉f2:=fun b hb hm=>(g7 b hb).elim (fun h9=>av b h9 hm) (fun h9=>zH<|d9.lt b hm)
    have g8:=BG.chgO g6 al av
    have am:=d9.fresh al fun c hc=>zH<|a3.low c hc
    have g9:=c4.chg al fun hm=>zH<|a3.low _ hm
    refine Aj ⟨⟨_,fun c hc=>zH<|a3.low c hc,al⟩,?_⟩
    refine Jx.Tr Z ?_
    refine AI 226 [] [] [zP g,Aw a4 1 5,fj] Z Z Gw Aa (IH2 dd1 oM _ f2 g pp dp ip p (s1) (T1) (Aw a4 1 5) (ex.kids.getD 1 Ex.zero) fj (env++[a1]) r T' s' (fun b hb=>(am.lt b hb:b<f4.heap.size)) (am.sub _ hgS) ⟨_,_,_,g9,g8⟩ (RN.stp (AX<|AR dp) hp c5 am.new) _hip oM ar (RN.ptr (Aq dd1) (by decide) Ex.zero (RN.stp (Al<|Aq dd1) ah.rn c5 am.new) sD) (RN.of_ow ba c6) ba.fr.cap EY oM P5 P4 (by exact FD.snoc (hen.mono oM) hRa) h2) ?_
    rintro mu fl ⟨fz,rfl,ae,ma,vg131,vv131,ga,gb⟩
    refine⟨_,rfl,?_⟩
    have j0:f4.heap.size≤fl.heap.size:=ae.chg.size
    have l4:AA S w fl:=c5.stp ae.chg am.new
    have l5:=ba.keep (AY AK) ae.chg fun b hb hm=>c6 b hm hb
    have gt:∀b∈fk,b∉fz:=fun b hb hm=>(ae.new b hm).elim (c6 b hb) (fun h9=>zH<|ba.high b hb)
    have gc:=am.trans ae
    have c7:=CO hvp F hF _ P6 (FD.snoc (hen.mono oM) hRa) hbA hlA.2 h2
    have c8:=c7.1
    have dq:=c8.bnd
    have j2:=c8.le
    have j3:=c8.vl
    have j4:=dq.2.1
    have j5:=c7.2
    have j6:Bk (r):=by omega
    exact Ac 1 Z<|A1<|AH<|Ao<|Af [6] Z (zI r) Z ⟨_,(by rfl),gc,(by exact⟨_,_,_,ga,gb⟩)⟩
  refine Ap false Z Z (A6 eh) Aa<|Ac 1 Z<|Ai Z<|A0<|ZN [0,0] Z ?_
  by_cases da:ex.kind=((10:Nat):Int)
  ·
    refine Ap true Z Z (A5 da) Aa<|Ac 1 Z<|Ah Z<|A2<|Ah Z<|ZN [0,0,0,4,0] Z<|Ad 3 Z<|AI 246 [] [] [zP g,ve,vv] Z Z UT Aa (FL _ S F r T' s' g pp dp ip p (s0) (T) dex ve (ex) vv (env) (fun b hb=>(a0.lt b hb:b<w.heap.size)) (a0.sub _ hgS) ⟨_,_,_,cj,cw⟩ (RN.stp (AX<|AR dp) hp a2 a0.new) _hip oM hbd (RN.stp (AX<|Aq dex) hex a2 a0.new) (RN.stp g1 henv a2 a0.new) hqenv EY oM hwf hdp hen hrg oM IH1 IH2) ?_
    rintro mv fm ⟨mw,rfl,az,mb,vg140,vv140,gd,ge⟩
    refine⟨_,rfl,?_⟩
    have j7:w.heap.size≤fm.heap.size:=az.chg.size
    have l6:AA S w fm:=a2.stp az.chg a0.new
    have gf:=a0.trans az
    have c9:=CO hvp F hF _ hwf hen hbd ju hrg
    have ca:=c9.1
    have dr:=ca.bnd
    have j8:=ca.le
    have j9:=ca.vl
    have ja:=dr.2.1
    have jb:=c9.2
    have jc:Bk (r):=by omega
    exact Ac 1 Z<|A1<|AH<|Ao<|Af [6] Z (zI r) Z ⟨_,(by rfl),gf,(by exact⟨_,_,_,gd,ge⟩)⟩
  refine Ap false Z Z (A6 da) Aa<|Ac 1 Z<|Ai Z<|Ab _ [0,0] Z ?_
  by_cases db:ex.kind=((11:Nat):Int)
  ·
    refine Ap true Z Z (A5 db) Aa<|Ac 1 Z<|Ah Z<|ZN [0,0,0,4,0] Z<|Ad 3 Z<|AI 246 [] [] [zP g,ve,vv] Z Z UT Aa (FL _ S F r T' s' g pp dp ip p (s0) (T) dex ve (ex) vv (env) (fun b hb=>(a0.lt b hb:b<w.heap.size)) (a0.sub _ hgS) ⟨_,_,_,cj,cw⟩ (RN.stp (AX<|AR dp) hp a2 a0.new) _hip oM hbd (RN.stp (AX<|Aq dex) hex a2 a0.new) (RN.stp g1 henv a2 a0.new) hqenv EY oM hwf hdp hen hrg oM IH1 IH2) ?_
    rintro mx fo ⟨my,rfl,b0,mc,vg148,vv148,gg,gh⟩
    refine⟨_,rfl,?_⟩
    have jd:w.heap.size≤fo.heap.size:=b0.chg.size
    have l7:AA S w fo:=a2.stp b0.chg a0.new
    have gi:=a0.trans b0
    have cb:=CO hvp F hF _ hwf hen hbd ju hrg
    have cc:=cb.1
    have ds:=cc.bnd
    have je:=cc.le
    have jf:=cc.vl
    have jg:=ds.2.1
    have jh:=cb.2
    have ji:Bk (r):=by omega
    exact Ac 1 Z<|A1<|AH<|Ao<|Af [6] Z (zI r) Z ⟨_,(by rfl),gi,(by exact⟨_,_,_,gg,gh⟩)⟩
  refine Ap false Z Z (A6 db) Aa<|Ac 1 Z<|Ai Z<|A2<|ZN [0,0,0,0,2,0,0,4,0] Z ?_
  have hwk:=Im hwf oM
  obtain⟨a1,T1,s1,b1,T2,s2,h1,h2,hre,hTe,_⟩:=Xt hrg oM hwk
  refine Ad 2 Z<|AG (hex.isPtr) Z Aa<|AD (p:=ve) 4 B8 Z (a8 _ a2) Aa<|Ae (p:=An ve 4) (.inr Z) a4 Ba Z ((a8 _ a2).ld (i:=4) EX) Aa<|Au (v:=a4) 0 CB Bf Z Z ah.rn.isSl Z sD Aa<|Ad 1 Z ?_
  refine AI 226 [] [] [zP g,Aw a4 0 5,vv] Z Z Gw Aa (IH2 dd1 oM _ S g pp dp ip p (s0+1) (T) (Aw a4 0 5) (ex.kids.getD 0 Ex.zero) vv (env) a1 T1 s1 (fun b hb=>(a0.lt b hb:b<w.heap.size)) (a0.sub _ hgS) ⟨_,_,_,cj,cw⟩ (RN.stp (AX<|AR dp) hp a2 a0.new) _hip oM ap (RN.ptr (Aq dd1) (by decide) Ex.zero (RN.stp (Al<|Aq dd1) ah.rn a2 a0.new) sD) (RN.stp g1 henv a2 a0.new) hqenv EY oM IG Ns hen h1) ?_
  rintro mz f5 ⟨ly,rfl,b2,me,vg155,vv155,gj,gk⟩
  refine⟨_,rfl,?_⟩
  have jj:w.heap.size≤f5.heap.size:=b2.chg.size
  have an:AA S w f5:=a2.stp b2.chg a0.new
  have af:=a0.trans b2
  have cd:=CO hvp F hF _ (BT hwf oM oM) (hen) ap hlt h1
  have ce:=cd.1
  have b3:=ce.bnd
  have dt:=ce.le
  have jk:=ce.vl
  have jl:=b3.2.1
  have jm:=cd.2
  have du:Bk (a1):=by omega
  have hbA:=b3
  have hlA:=dt
  refine Ac 1 Z<|ZN [0,0,0,0,2,0,0,4,0] Z<|Ad 2 Z<|AG (hex.isPtr) Z Aa<|AD (p:=ve) 4 B8 Z (a8 _ an) Aa<|Ae (p:=An ve 4) (.inr Z) a4 Ba Z ((a8 _ an).ld (i:=4) EX) Aa<|Au (v:=a4) 1 CB Bf Z Z ah.rn.isSl Z sD Aa<|Ad 1 Z ?_
  refine AI 226 [] [] [zP g,Aw a4 1 5,vv] Z Z Gw Aa (IH2 dd1 oM _ ly g pp dp ip p (s1) (T1) (Aw a4 1 5) (ex.kids.getD 1 Ex.zero) vv (env) b1 T2 s2 (fun b hb=>(af.lt b hb:b<f5.heap.size)) (af.sub _ hgS) ⟨_,_,_,gj,gk⟩ (RN.stp (AX<|AR dp) hp an af.new) _hip oM b3 (RN.ptr (Aq dd1) (by decide) Ex.zero (RN.stp (Al<|Aq dd1) ah.rn an af.new) sD) (RN.stp g1 henv an af.new) hqenv EY oM IG (zH<|CH (l:=ex.kids) (k:=1) oM) (by exact hen.mono oM) h2) ?_
  rintro n0 fd ⟨lz,rfl,b4,mf,vg162,vv162,cf,a9⟩
  refine⟨_,rfl,?_⟩
  have jn:f5.heap.size≤fd.heap.size:=b4.chg.size
  have cg:AA S w fd:=an.stp b4.chg af.new
  have gl:=af.trans b4
  have ch:=CO hvp F hF _ (BT hwf oM oM) (hen.mono oM) hbA hlA.2 h2
  have ci:=ch.1
  have ag:=ci.bnd
  have jo:=ci.le
  have jp:=ci.vl
  have jq:=ag.2.1
  have jr:=ch.2
  have dv:Bk (b1):=by omega
  refine Ac 1 Z<|ZN [0,0,0,2,0,0] Z<|Ad 1 Z<|AG (hex.isPtr) Z Aa<|AD (p:=ve) 0 BC Z (a8 _ cg) Aa<|Ae (p:=An ve 0) (.inr Z) (zI ex.kind) AC Z ((a8 _ cg).ld (i:=0) EX) Aa<|AB 247 [] [] [zI ex.kind] Z Z Yp Aa (zI ex.kind) (fun wq=>Np wq _ ah.rng.kind oM)<|Ac 1 Z<|A0<|AO _ [0,0,0,0,0,0,0,0,0,1,0,0,1,0,0,0,1,0,0,1,3,4,0] mixed (by kernel_rfl) ?_
  have hat:=BY ag.2.2.2 a1.toNat
  have hbt:=BY ag.2.2.2 b1.toNat
  refine Ad 4 Z ?_
  have dw:∀(wq:World),(Instr.build 46 #[(0,zI ex.kind),(1,zI a1),(2,zI b1)]).run Tryz.prog wq=.ok (.agg #[zI ex.kind,zI a1,zI b1,zI 0]) wq:=by intro wq;kernel_rfl
  refine CI (ps:=#[(0,zI ex.kind),(1,zI a1),(2,zI b1)]) (.agg #[zI ex.kind,zI a1,zI b1,zI 0]) Nr (fun wq=>dw  wq) Aa<|Ad 2 Z<|Bb Z Aa<|Ak (p:=zP g) 5 HY Z Z Aa<|Ae (p:=An (zP g) 5) (.inl Z) vv162 AZ Z (cf.ldp (i:=5) sM) Aa<|Ad 1 Z<|Au (v:=vv162) ((a1).toNat) Bl BD Z Z (BG.slv a9) oM oM Aa (Ae (p:=Aw vv162 ((a1).toNat) 1) (.inl Z) (zI<|T2.vals.getD ((a1).toNat) 0) AC Z ((BG.rdv a9).getI oM).1 Aa (Ad 1 Z<|Bb Z Aa ?_))
  refine Ak (p:=zP g) 5 HY Z Z Aa<|Ae (p:=An (zP g) 5) (.inl Z) vv162 AZ Z (cf.ldp (i:=5) sM) Aa<|Ad 1 Z<|Au (v:=vv162) ((b1).toNat) Bl BD Z Z (BG.slv a9) oM oM Aa (Ae (p:=Aw vv162 ((b1).toNat) 1) (.inl Z) (zI<|T2.vals.getD ((b1).toNat) 0) AC Z ((BG.rdv a9).getI oM).1 Aa (Am 248 [] [] [zI ex.kind,zI<|T2.vals.getD ((a1).toNat) 0,zI<|T2.vals.getD ((b1).toNat) 0] Z Z Yq Aa (Ki _ _ _ _ oM ((BG.rdv a9).getI oM).2 ((BG.rdv a9).getI oM).2 oM hat hbt) ?_))
  rintro n1 f6 ⟨rfl,a7⟩
  refine⟨_,rfl,a7,?_⟩
  replace a7:=a7.of_drew
  have js:fd.heap.size≤f6.heap.size:=a7.size
  have gm:AA S w f6:=cg.ext a7
  have bi:=cf.ext a7
  have l8:=(BG.rdv a9).ext g1 a7
  have gn:=BG.ext a9 a7
  have bb:=gl.ext a7
  refine AI 180 [] [] [zP g,.agg #[zI ex.kind,zI a1,zI b1,zI (0:Int)],zI<|FN ex.kind (T2.vals.getD ((a1).toNat) 0)<|T2.vals.getD ((b1).toNat) 0] Z Z PT Aa (Dh _ lz g pp ip (T2) (⟨ex.kind,a1,b1,(0:Int)⟩:Az) (FN ex.kind (T2.vals.getD ((a1).toNat) 0)<|T2.vals.getD ((b1).toNat) 0) (fun b hb=>(bb.lt b hb:b<f6.heap.size)) (bb.sub _ hgS) ⟨_,_,_,bi,gn⟩ _hip (ag.ln oM) ag.1 ⟨(show Bk (ex.kind)from by omega),du,dv,(show Bk (0:Int)from by omega)⟩ (by have:=J6 ex.kind (T2.vals.getD ((a1).toNat) 0) (T2.vals.getD ((b1).toNat) 0);omega)) ?_
  rintro n2 fp ⟨n3,rfl,b5,mg,vg174,vv174,go,gp⟩
  refine⟨_,rfl,?_⟩
  have jt:f6.heap.size≤fp.heap.size:=b5.chg.size
  have l9:AA S w fp:=gm.stp b5.chg bb.new
  have gq:=bb.trans b5
  exact Ac 1 Z<|A1<|Af [6] Z (zI (T2.vals.length:Int)) Z ⟨_,(by rw[hre]),gq,(by rw[hTe];exact⟨_,_,_,go,gp⟩)⟩
theorem VY:∀F d,X2 F d:=by
  intro F
  induction F using Nat.strongRecOn with
  |_ F ihF =>
    intro d
    induction d using Nat.strongRecOn with
    |_ d ihd =>
      intro w S g pp dp ip p s0 T ve ex vv env r T' s' hS hgS a0 hp hip a1 hbd hex henv hqenv hvp hF hwf hdp hen hrg
      exact II w S F r T' s' g pp dp ip p s0 T d ve ex vv env hS hgS a0 hp hip a1 hbd hex henv hqenv hvp hF hwf hdp hen hrg (fun F' h d'=>ihF F' h d') fun d' h=>ihd d' h
theorem JU (w:World)(dp:Nat)(pp:Value)(p:List Fn)(f:Int)(va:Value)(a:Sr)(hp:RN [] (rP (K4 dp)) w.heap pp p)(_hf:Bk f)(ha:RN [] (B5 rI) w.heap va a)(xs:Sr)(T':Tp)(s':Nat)(hvp:FY p)(hf:0≤f∧f<(p.length:Int))(hl:(a.length:Int)=(p.getD f.toNat Fn.zero).params)(hna:B9 a=true)(hrec:Kc p f.toNat a=.ok (xs,T') s') :
    Calls Tryz.prog 138 #[pp,zI f,va] w (fun e w'=>∃(vc vg vo:Value),e=.returned (.agg #[zI (a.length:Int),vc,vg,vo])∧AF w w'∧RG w.heap.size (Cj 4 Jy) w'.heap vc T'.code∧RG w.heap.size (Cj 2 Jz) w'.heap vg T'.grd∧RG w.heap.size (B5 rI) w'.heap vo xs):=by
  refine As [pp,zI f,va] 54 Tryz.func138 Z Z sM ?_
  have cr:AF w w:=AF.refl w
  have ds:=ha.lenL
  unfold maxLen at ds
  have e9:=hvp.par f.toNat oM
  have ea:=hvp.outs f.toNat oM
  refine ZN [3] Z (Br (z:=.agg #[zI 0,zN,zN,zN]) U1 Aa fun w1 bp d7 bk=>?_)
  have bq:=bp.size
  have ct:=cr.trans bp
  replace bk:BX w1.heap w.heap.size [zI 0,zN,zN,zN]:=bk
  refine Aj<|ZN [0,0,3,0] Z<|Ad 1 Z ?_
  have br:∀(pp:Value) (ah:∃b o,pp=.pointer (some ⟨b,o,none⟩)) (wq:World),(Instr.build 234 #[(0,pp)]).run Tryz.prog wq=.ok (.agg #[pp,zI 0,zN,zN,zN,zN]) wq:=by intro pp ah wq;obtain⟨b0,o0,rfl⟩:=ah;kernel_rfl
  refine CI (ps:=#[(0,pp)]) (.agg #[pp,zI 0,zN,zN,zN,zN]) (by simp only[zc,zf,zh];rfl) (fun wq=>br pp hp.isPtr wq) Aa ?_
  have dm:=bk.lt
  refine Bj (cs:=#[pp,zI 0,zN,zN,zN,zN]) Z Aa fun w3 bl d8 bs=>?_
  have bt:=bl.size
  have bu:=ct.trans bl
  have au:=bk.ext bl
  replace bs:BX w3.heap w1.heap.size [pp,zI 0,zN,zN,zN,zN]:=bs
  refine Ac 1 Z<|ZN [0,0,0,0,0,0,4] Z<|Ad 2 Z<|AP (v:=va) Bl Z ha.slL Aa<|Bb Z Aa<|Ak (p:=zP w1.heap.size) 1 FV Z Z Aa<|Ak (p:=An (zP w1.heap.size) 1) (b:=w1.heap.size) (o:=1) 0 Ga Z Z Aa (BH (k:=1) (w:=w3) I3 Z Z ⟨rfl,rfl⟩ bs sM Aa fun w5 bm da bn=>?_)
  replace bn:BX w5.heap w1.heap.size [pp,zI (a.length:Int),zN,zN,zN,zN]:=bn
  have cu:AF w w5:=bm.below bu (fun _ h=>zE h) bu.size
  have bv:w3.heap.size≤w5.heap.size:=bm.size
  have cv:=au.chg bm (zB ·)
  refine Aj<|ZN [3,0] Z ?_
  obtain⟨S,hSd⟩:∃S:List Nat,S=[w1.heap.size]:=⟨_,rfl⟩
  have hgS:w1.heap.size∈S:=by rw[hSd];exact List.mem_singleton.2 Z
  have hlr:w1.heap.size<w5.heap.size:=BX.lt bn
  have hMb:BG 46 177 2 S w1.heap.size w5.heap zN zN zN (Gu a 0):=BG.nil
  have hGb:Dy S S w w5:=⟨fun _ h=>h,fun b hb=>.inl hb,fun b hb=>by rw[hSd]at hb;have:=A9 hb;omega,AA.of_ext S cu⟩
  have hEb:AA S w w5:=hGb.chg
  have hSn:∀b∈S,w.heap.size≤b:=fun b hb=>by rw[hSd]at hb;have:=A9 hb;omega
  have hBb:BX w5.heap w1.heap.size [pp,zI (a.length:Int),zN,zN,zN,zN]:=bn
  have bw:RN S (rP (K4 dp)) w.heap pp p:=by rw[hSd];exact RN.add (AX (AR dp)) hp (fun b hb=>zH<|A9 hb)
  have bx:RN S (B5 rI) w.heap va a:=by rw[hSd];exact RN.add g1 ha (fun b hb=>zH<|A9 hb)
  refine Cp (rI) AK Bl BD Aa fun e6 e3 a3 bz av=>?_
  have aw:w5.heap.size≤e3.heap.size:=a3.size
  have ax:AA S w e3:=hEb.ext a3
  have ab:=cv.ext a3
  have aj:=hBb.ext a3
  have ay:=BG.ext hMb a3
  have az:=hGb.ext a3
  refine Ac 1 Z<|A0<|ZO Z<|A3 ?_
  have hBO:w.heap.size≤w5.heap.size∧w1.heap.size<w5.heap.size:=by omega
  have b1:w.heap.size∉S:=fun hm=>(by have h9:=hm;rw[hSd]at h9;have:=A9 h9;omega)
  obtain⟨Fo0,b2⟩:=Ow.of_fr av (A7 _)
  have c0:∀b∈Fo0,b∉S:=fun b hb hm=>by have:=b2.low b hb;have:=hGb.lt b hm;omega
  have hMs:=ay
  have hGs:=az
  have hnswheaps:w.heap.size∉S:=fun hm=>(by have h9:=hm;rw[hSd]at h9;have:=A9 h9;omega)
  refine AT (S:=Nat×Value×Sr×List Nat×List Nat×Value×Value×Value) (fun⟨k,vo,dn,Fo,S9,dt,vg9,vv9⟩=>([(8,vo),(9,zI (k:Int)),(0,pp),(1,zI f),(2,va),(6,zP w.heap.size),(7,zP w1.heap.size)])) (fun⟨k,vo,dn,Fo,S9,dt,vg9,vv9⟩ W=>AA S w W∧BX W.heap w.heap.size [zI 0,zN,zN,zN]∧BX W.heap w1.heap.size [pp,zI (a.length:Int),dt,vg9,zN,vv9]∧k≤a.length∧w5.heap.size≤W.heap.size∧Dy S S9 w W∧BG 46 177 2 S9 w1.heap.size W.heap dt vg9 vv9 (Gu a k)∧Ow (Bo rI 2) w5.heap.size W.heap.size W.heap vo dn Fo∧(∀b∈Fo,b∉S9)∧dn=Fd k∧w.heap.size∉S9) (fun⟨k,vo,dn,Fo,S9,dt,vg9,vv9⟩=>a.length-k) (0,e6,[],Fo0,S,zN,zN,zN) ⟨rfl,rfl,rfl,rfl,rfl,rfl,rfl,trivial⟩ ⟨ax,ab,aj,oM,oM,hGs,hMs,b2,c0,(by rfl),b1⟩ ?_
  clear cr d7 bp bq ct d8 bl bt bu da bm cu bv cv av bz a3 aw ax ab ay az
  rintro⟨k,vo,dn,Fo,S9,dt,vg9,vv9⟩ ρ13 du ⟨a2,a4,a5,c1,hbw,hGl,hMl,hOl,hdl,hxe,a9⟩
  have cw:w.heap.size≤du.heap.size:=a2.size
  have db:=a4.lt
  have dc:=a5.lt
  refine A0<|ZN [0,0,0,0] Z<|Ad 2 Z<|AP (v:=va) Bl Z bx.slL Aa ?_
  by_cases b3:(k:Int)<(a.length:Int)
  ·
    refine AE true Z Z (A5 b3) Aa<|Aj<|Ah Z<|A2<|A0<|A3<|Ab _ [0,0,0,0,0,0,0,2,4,3,4,0] Z ?_
    have hak:=BY hna k
    have hvk:=G7 a k
    have hxk:dn.length=k:=by rw[hxe,Do]
    refine Ad 3 Z ?_
    have b4:∀(wq:World),(Instr.build 46 #[(0,zI ((1:Nat):Int)),(3,zI (k:Int))]).run Tryz.prog wq=.ok (.agg #[zI ((1:Nat):Int),zI 0,zI 0,zI (k:Int)]) wq:=by intro wq;kernel_rfl
    refine CI (ps:=#[(0,zI ((1:Nat):Int)),(3,zI (k:Int))]) (.agg #[zI ((1:Nat):Int),zI 0,zI 0,zI (k:Int)]) (by simp only[zc,zf,zh];rfl) (fun wq=>b4  wq) Aa<|Ad 2 Z<|Au (v:=va) k Bl BD Z Z bx.slL Z sD Aa ?_
    have b5:=RN.getI (w:=w) (k:=k) bx sD
    refine Ae (p:=Aw va k 1) (.inr Z) (zI<|a.getD k 0) AC Z (b5.1 _ a2) Aa<|AI 180 [] [] [zP w1.heap.size,.agg #[zI ((1:Nat):Int),zI (0:Int),zI (0:Int),zI (k:Int)],zI<|a.getD k 0] Z Z PT Aa (Dh _ S9 w1.heap.size pp (a.length:Int) (Gu a k) (⟨((1:Nat):Int),(0:Int),(0:Int),(k:Int)⟩:Az) (a.getD k 0) (fun b hb=>(hGl.lt b hb:b<du.heap.size)) (hGl.sub _ hgS) ⟨_,_,_,a5,hMl⟩ oM ⟨by rw[JB];omega,by rw[G7];omega⟩ (by rw[JB,G7]) ⟨(show Bk ((1:Nat):Int)from by omega),(show Bk (0:Int)from by omega),(show Bk (0:Int)from by omega),(show Bk (k:Int)from by omega)⟩ b5.2) ?_
    rintro eb dr ⟨dv,rfl,a0,dz,vg19,vv19,c2,c3⟩
    refine⟨_,rfl,?_⟩
    have cx:du.heap.size≤dr.heap.size:=a0.chg.size
    have c4:AA S w dr:=a2.stp a0.chg hGl.new
    have c5:=a4.chg a0.chg fun hm=>a9 hm
    have ak:w.heap.size∉dv:=fun hm=>(a0.new _ hm).elim (fun hm=>a9 hm) (fun h9=>by omega)
    have c6:=hOl.keep (AY AK) a0.chg fun b hb hm=>hdl b hm hb
    have ac:∀b∈Fo,b∉dv:=fun b hb hm=>(a0.new b hm).elim (hdl b hb) (fun h9=>zH<|hOl.high b hb)
    have c7:=hGl.trans a0
    refine (By (u:=zI (((Gu a k).vals.length:Nat):Int)) (B:=dr.heap.size) AK Bl BD Z Z (Mb dr.heap.size dr.heap.size _ _ oM) (A7 _) Aa ?_)
    intro e7 e0 a6 dd c8
    have cy:dr.heap.size≤e0.heap.size:=a6.size
    have c9:AA S w e0:=c4.ext a6
    have ad:=c5.ext a6
    have ae:=c2.ext a6
    have ca:=BG.ext c3 a6
    have b6:=c7.ext a6
    have hO28k:=c6.ext (AY AK) a6
    refine ER (v:=vo) (a:=e7) Bl BD Z Z Z hO28k c8.rd1 oM sD (by unfold maxLen;first|omega|assumption|(simp only[zb,z9,z4,z6,z5];omega)|(simp[zb,z9,z4,z6,z5];done)|(simp[zb,z9,z4,z6,z5];omega)) Aa fun e8 e4 e5 aa de cb=>?_
    have cz:e0.heap.size≤e4.heap.size:=aa.size
    have cc:AA S w e4:=c9.fresh aa (fun c hc=>zH<|hO28k.low c hc)
    have df:∀b∈e5,b∉dv:=fun b hb hm=>(cb b hb).elim (fun h9=>ac b h9 hm) (fun h9=>zH<|b6.lt b hm)
    have cd:=BG.chgO ca aa ac
    have ce:=b6.fresh aa fun c hc=>zH<|hO28k.low c hc
    have cf:=ad.chg aa fun hm=>zH<|hO28k.low _ hm
    have cg:=ae.chg aa fun hm=>zH<|hO28k.low _ hm
    refine Ac 1 Z<|Ab _ [0,0,0] Z<|Ad 1 Z<|AQ ((k+1:Nat):Int) Z Z (Be oM oM) Aa<|Ac 1 Z ?_
    have hMe:=cd
    have hGe:=ce
    have b7:w.heap.size∉dv:=fun hm=>ak hm
    exact⟨(k+1,e8,dn++[(((Gu a k).vals.length:Nat):Int)],e5,dv,dz,vg19,vv19),_,rfl,zR,⟨cc,cf,cg,oM,oM,hGe,hMe,(by assumption),(by assumption),(by rw[hxe,G7];exact(L1 k).symm),b7⟩,zD⟩
  refine AE false Z Z (A6 b3) Aa<|Aj<|Ai Z<|A4<|Ay<|Ay<|At<|ZN [0,0,0,0,0,2,0,0,0,4,0,0,0,4] Z ?_
  have hkl:k=a.length:=by omega
  have b8:FT (Gu a k) 0:=by rw[hkl];exact Rn hna oM
  have b9:FD (Gu a k) dn:=by rw[hxe];exact Ro a k
  have bo:∀j,j<(p.getD f.toNat Fn.zero).outs.length→wf p (f.toNat:Int) ((p.getD f.toNat Fn.zero).outs.getD j Ex.zero) (dn.length:Int)=true:=by intro j hj;have h9:=hvp.wf f.toNat oM j hj;rw[hxe,Do,hkl,hl];exact h9
  have ai:E2 (Gs p f.toNat) (p.getD f.toNat Fn.zero).outs dn 0 (Gu a k)=.ok (xs,T') s':=by rw[hxe,hkl];exact hrec
  refine Ad 3 Z<|AG (bw.isPtr) Z Aa ?_
  obtain⟨cs35,ch,ba⟩:=RN.at (AR _) bw
  obtain⟨af,rfl,al⟩:=RPr.of ch
  have bb:=al.lenle
  unfold maxLen at bb
  refine AD (p:=pp) 0 BA Z (ba _ a2) Aa<|Ae (p:=An pp 0) (.inr Z) af C5 Z ((ba _ a2).ld (i:=0) (by simp[DQ,DU])) Aa<|Ad 1 Z<|Au (v:=af) ((f).toNat) Fq C9 Z Z al.isSl oM sD Aa<|Ad 1 Z ?_
  refine AI 181 [] [] [zP w1.heap.size,Aw af ((f).toNat) 3,vo] Z Z UH Aa (FK _ S9 f.toNat xs T' s' w1.heap.size pp dp (a.length:Int) p (0) (Gu a k) dp (Aw af ((f).toNat) 3) (p.getD ((f).toNat) Fn.zero) vo (dn) (fun b hb=>(hGl.lt b hb:b<du.heap.size)) (hGl.sub _ hgS) ⟨_,_,_,a5,hMl⟩ (RN.stp (AX<|AR dp) bw a2 hGl.new) oM oM b8 (RN.ptr (Ax dp) (by decide) Fn.zero (RN.stp (Al<|Ax dp) al a2 hGl.new) sD) (RN.of_ow hOl hdl) hOl.fr.cap hvp oM bo (by intro j hj;have h9:=hvp.deep f.toNat oM j hj;rw[hxe,Do];omega) oM b9 ai (by exact fun d9=>VY _ d9)) ?_
  rintro ec dy ⟨dw,e1,rfl,a1,⟨dq,vg36,vv36,ci,cj⟩,bc,d0⟩
  refine⟨_,rfl,?_⟩
  have d1:du.heap.size≤dy.heap.size:=a1.chg.size
  have ck:AA S w dy:=a2.stp a1.chg hGl.new
  have cl:=a4.chg a1.chg fun hm=>a9 hm
  have am:w.heap.size∉e1:=fun hm=>(a1.new _ hm).elim (fun hm=>a9 hm) (fun h9=>by omega)
  have an:=hOl.keep (AY AK) a1.chg fun b hb hm=>hdl b hm hb
  have cm:∀b∈Fo,b∉e1:=fun b hb hm=>(a1.new b hm).elim (hdl b hb) (fun h9=>zH<|hOl.high b hb)
  have bd:=hGl.trans a1
  have be:=GP _ (fun e _=>CO hvp _ oM e) (Ip bo) b9 b8 oM ai
  have ao:=be.1
  have bf:=ao.bnd
  have d2:=ao.le
  have d3:=ao.vl
  have d4:=bf.2.1
  have bg:=bc.rn
  refine Bb Z Aa<|Ak (p:=zP w1.heap.size) 1 FV Z Z Aa<|Ak (p:=An (zP w1.heap.size) 1) (b:=w1.heap.size) (o:=1) 3 Em Z Z Aa (BH (k:=4) (w:=dy) H8 Z Z (Bn bg.slL) ci sM Aa fun dx a7 dg ag=>?_)
  replace ag:BX dx.heap w1.heap.size [pp,zI (a.length:Int),dq,vg36,dw,vv36]:=ag
  have cn:AA S w dx:=ck.trans (a7.sub (B2 hgS))
  have ap:=BG.chg cj a7
  have co:=bd.set hgS a7
  have d5:dy.heap.size≤dx.heap.size:=a7.size
  have cp:=cl.chg a7 (zB ·)
  have aq:=an.keep (AY AK) a7 fun b hb hm=>by have:=A9 hb;have:=an.low _ hm;have:=an.high _ hm;omega
  have hF50l:=bc.upd g1 a7 fun b hb=>by rw[A9 hb];exact .inl (bd.sub _ hgS)
  have cq:=hF50l.rn
  refine Aj<|ZN [0,0,0,2,4] Z<|Ad 1 Z<|Bb Z Aa<|Ak (p:=zP w1.heap.size) 1 FV Z Z Aa<|AJ (p:=An (zP w1.heap.size) 1) (.inr Z) [zI (a.length:Int),dq,vg36,dw] E8 Z (fun ed bo=>LD.part (BX.ext (w:=dx) ag bo) (by show(5:Nat)≤6;decide) (by intro i hi;match i,hi with|0,_=>rfl|1,_=>rfl|2,_=>rfl|3,_=>rfl)) Z Aa ?_
  refine Ce (vs:=[zI (a.length:Int),dq,vg36,dw]) E8 Z Z (by intro u hu;simp only[ze,z2,or_false]at hu;rcases hu with rfl|rfl|rfl|rfl <;> first|exact⟨rfl,rfl⟩|exact Bn (BG.slc ap)|exact Bn (BG.slg ap)|exact Bn cq.slL) cp Z Z Aa fun e2 a8 dh ar=>?_
  replace ar:BX e2.heap w.heap.size [zI (a.length:Int),dq,vg36,dw]:=ar
  have di:AA S w e2:=cn.fresh a8 (fun _ h=>zE h)
  have bh:=BG.chgO ap a8 fun b hb hm=>by rw[A9 hb]at hm;exact am hm
  have bi:=co.fresh a8 fun _ h=>zE h
  have d6:dx.heap.size≤e2.heap.size:=a8.size
  have dj:=ag.chg a8 (zB ·)
  have dk:=aq.keep (AY AK) a8 fun b hb hm=>by have:=A9 hb;have:=aq.low _ hm;have:=aq.high _ hm;omega
  have hF57l:=hF50l.upd g1 a8 fun b hb=>by rw[A9 hb];(right;omega)
  have dl:=hF57l.rn
  refine Aj<|A1 ?_
  have bj:∀b∈e1,w.heap.size≤b:=fun b hb=>(bi.new b hb).elim (hSn b) id
  exact HO (cs:=[zI (a.length:Int),dq,vg36,dw]) Z E8 Z ar Z ⟨_,_,_,rfl,AA.toExt bi.chg hSn,(BG.readsG bh bj).1,(BG.readsG bh bj).2,Or.rg hF57l oM⟩
theorem HG {p:Prop}(h:p:=by first|rfl|exact AL (A5 oM)|(exfalso;(try unfold DI at hf);omega)):p:=h
theorem Ee {p:Prop}(h:p:=by rw[A5 oM,A5 oM];rfl):p:=h
theorem Kj (w:World)(c:Az)(k:Int)(n:Int)(hc:OG c)(_hk:Bk k)(_hn:Bk n)(hk:0≤k∧k≤4000)(hn:0≤n∧n≤12)(hf:DI n.toNat k.toNat c) :
    Calls Tryz.prog 256 #[(.agg #[(zI c.op),(zI c.a),(zI c.b),(zI c.num)]),zI k,zI n] w (fun e w'=>e=.returned (.bool true)∧AF w w'):=by
  refine As [.agg #[zI c.op,zI c.a,zI c.b,zI c.num],zI k,zI n] 80 Tryz.func256 Z Z sM ?_
  have ag:AF w w:=AF.refl w
  refine ZN [3,0] Z (Bj (cs:=#[zI c.op,zI c.a,zI c.b,zI c.num]) Z Aa fun w1 ad am a0=>?_)
  have ah:=ad.size
  have a1:=ag.trans ad
  replace a0:BX w1.heap w.heap.size [zI c.op,zI c.a,zI c.b,zI c.num]:=a0
  refine Ac 1 Z<|A0<|ZN [0,2] Z<|Ak (p:=zP w.heap.size) 0 GR Z Z Aa<|Ae (p:=An (zP w.heap.size) 0) (.inr Z) (zI c.op) AC Z (a0.ldp (i:=0) sM) Aa<|Aj<|A3<|ZN [0,0] Z ?_
  by_cases ae:c.op=((1:Nat):Int)
  ·
    refine Ap true Z Z (A5 ae) Aa<|Ac 1 Z<|Ah Z<|ZN [0,2,0,0,0,2,0,0,0,0,2,0,0,0,0,0] Z ?_
    unfold DI at hf
    refine Ak (p:=zP w.heap.size) 1 Bt Z Z Aa<|Ae (p:=An (zP w.heap.size) 1) (.inr Z) (zI c.a) AC Z (a0.ldp (i:=1) sM) Aa ?_
    have ai:c.a=((0:Nat):Int):=oM
    refine Ap true Z Z (A5 ai) Aa<|Ad 1 Z<|Ak (p:=zP w.heap.size) 2 Bu Z Z (Ag (e:=14) Z Z Z)<|Ae (p:=An (zP w.heap.size) 2) (.inr Z) (zI c.b) AC Z (a0.ldp (i:=2) sM) (Ag (e:=14) Z Z Z) ?_
    have aj:c.b=((0:Nat):Int):=oM
    refine Ap true Z Z (A5 aj) (Ag (e:=14) Z Z Z)<|Ad 2 Z<|Ak (p:=zP w.heap.size) 3 Cy Z Z (Ag (e:=19) Z Z Z)<|Ae (p:=An (zP w.heap.size) 3) (.inr Z) (zI c.num) AC Z (a0.ldp (i:=3) sM) (Ag (e:=19) Z Z Z)<|Ad 1 Z ?_
    refine Bi (n-((1:Nat):Int)) Z Z (CT sD sD) (Ag (e:=19) Z Z Z) ?_
    refine AB 94 [] [] [zI c.num,zI ((0:Nat):Int),zI (n-((1:Nat):Int))] Z Z E7 (Ag (e:=19) Z Z Z) (.bool (decide (((0:Nat):Int)≤c.num) && decide (c.num≤(n-((1:Nat):Int))))) (fun wq=>B3 wq _ _ _ hc.2.2.2 oM oM) ?_
    rw[show(decide (((0:Nat):Int)≤c.num) && decide (c.num≤(n-((1:Nat):Int))))=true from Ee]
    exact Ac 2 Z<|A1<|AH<|Ao<|Af [6] Z (.bool true) Z ⟨HG,a1⟩
  refine Ap false Z Z (A6 ae) Aa<|Ac 1 Z<|Ai Z<|ZN [0,0] Z ?_
  by_cases af:c.op=((2:Nat):Int)
  ·
    refine Ap true Z Z (A5 af) Aa<|Ac 1 Z<|Ah Z<|ZN [0,2,0,0,0,2,0,0,0,0,2,0,0,0] Z ?_
    unfold DI at hf
    refine Ak (p:=zP w.heap.size) 1 Bt Z Z Aa<|Ae (p:=An (zP w.heap.size) 1) (.inr Z) (zI c.a) AC Z (a0.ldp (i:=1) sM) Aa ?_
    have ak:c.a=((0:Nat):Int):=oM
    refine Ap true Z Z (A5 ak) Aa<|Ad 1 Z<|Ak (p:=zP w.heap.size) 2 Bu Z Z (Ag (e:=31) Z Z Z)<|Ae (p:=An (zP w.heap.size) 2) (.inr Z) (zI c.b) AC Z (a0.ldp (i:=2) sM) (Ag (e:=31) Z Z Z) ?_
    have al:c.b=((0:Nat):Int):=oM
    refine Ap true Z Z (A5 al) (Ag (e:=31) Z Z Z)<|Ad 2 Z<|Ak (p:=zP w.heap.size) 3 Cy Z Z (Ag (e:=36) Z Z Z)<|Ae (p:=An (zP w.heap.size) 3) (.inr Z) (zI c.num) AC Z (a0.ldp (i:=3) sM) (Ag (e:=36) Z Z Z)<|AB 166 [] [] [zI c.num] Z Z Sh (Ag (e:=36) Z Z Z) (.bool<|HZ c.num) (fun wq=>En wq _ hc.2.2.2) ?_
    rw[show(HZ c.num)=true from CY.2 ⟨zO,zO⟩]
    exact Ac 2 Z<|A1<|AH<|Ao<|Af [6] Z (.bool true) Z ⟨HG,a1⟩
  refine Ap false Z Z (A6 af) Aa<|Ac 1 Z<|Ai Z<|A0<|ZN [0,0] Z ?_
  by_cases a2:c.op=((3:Nat):Int)
  ·
    refine Ap true Z Z (A5 a2) Aa<|Ac 1 Z<|Ah Z<|A2<|Ah Z<|ZN [0,2,0,0,0,2,0,0,0,0,0,0,2,0,0,0,0,0] Z ?_
    unfold DI at hf
    refine Ak (p:=zP w.heap.size) 3 Cy Z Z Aa<|Ae (p:=An (zP w.heap.size) 3) (.inr Z) (zI c.num) AC Z (a0.ldp (i:=3) sM) Aa ?_
    have a7:c.num=((0:Nat):Int):=oM
    refine Ap true Z Z (A5 a7) Aa<|Ad 1 Z<|Ak (p:=zP w.heap.size) 1 Bt Z Z (Ag (e:=49) Z Z Z)<|Ae (p:=An (zP w.heap.size) 1) (.inr Z) (zI c.a) AC Z (a0.ldp (i:=1) sM) (Ag (e:=49) Z Z Z)<|Ad 1 Z ?_
    refine Bi (k-((1:Nat):Int)) Z Z (CT sD sD) (Ag (e:=49) Z Z Z) ?_
    refine AB 94 [] [] [zI c.a,zI ((0:Nat):Int),zI (k-((1:Nat):Int))] Z Z E7 (Ag (e:=49) Z Z Z) (.bool (decide (((0:Nat):Int)≤c.a) && decide (c.a≤(k-((1:Nat):Int))))) (fun wq=>B3 wq _ _ _ hc.2.1 oM oM) ?_
    rw[show(decide (((0:Nat):Int)≤c.a) && decide (c.a≤(k-((1:Nat):Int))))=true from Ee]
    refine Ad 2 Z<|Ak (p:=zP w.heap.size) 2 Bu Z Z (Ag (e:=56) Z Z Z)<|Ae (p:=An (zP w.heap.size) 2) (.inr Z) (zI c.b) AC Z (a0.ldp (i:=2) sM) (Ag (e:=56) Z Z Z)<|Ad 1 Z ?_
    refine Bi (k-((1:Nat):Int)) Z Z (CT sD sD) (Ag (e:=56) Z Z Z) ?_
    refine AB 94 [] [] [zI c.b,zI ((0:Nat):Int),zI (k-((1:Nat):Int))] Z Z E7 (Ag (e:=56) Z Z Z) (.bool (decide (((0:Nat):Int)≤c.b) && decide (c.b≤(k-((1:Nat):Int))))) (fun wq=>B3 wq _ _ _ hc.2.2.1 oM oM) ?_
    rw[show(decide (((0:Nat):Int)≤c.b) && decide (c.b≤(k-((1:Nat):Int))))=true from Ee]
    exact Ac 2 Z<|A1<|AH<|Ao<|Af [6] Z (.bool true) Z ⟨HG,a1⟩
  refine Ap false Z Z (A6 a2) Aa<|Ac 1 Z<|Ai Z<|ZN [0,0] Z ?_
  by_cases a3:c.op=((4:Nat):Int)
  ·
    refine Ap true Z Z (A5 a3) Aa<|Ac 1 Z<|Ah Z<|A2<|Ah Z<|ZN [0,2,0,0,0,2,0,0,0,0,0,0,2,0,0,0,0,0] Z ?_
    unfold DI at hf
    refine Ak (p:=zP w.heap.size) 3 Cy Z Z Aa<|Ae (p:=An (zP w.heap.size) 3) (.inr Z) (zI c.num) AC Z (a0.ldp (i:=3) sM) Aa ?_
    have a8:c.num=((0:Nat):Int):=oM
    refine Ap true Z Z (A5 a8) Aa<|Ad 1 Z<|Ak (p:=zP w.heap.size) 1 Bt Z Z (Ag (e:=49) Z Z Z)<|Ae (p:=An (zP w.heap.size) 1) (.inr Z) (zI c.a) AC Z (a0.ldp (i:=1) sM) (Ag (e:=49) Z Z Z)<|Ad 1 Z ?_
    refine Bi (k-((1:Nat):Int)) Z Z (CT sD sD) (Ag (e:=49) Z Z Z) ?_
    refine AB 94 [] [] [zI c.a,zI ((0:Nat):Int),zI (k-((1:Nat):Int))] Z Z E7 (Ag (e:=49) Z Z Z) (.bool (decide (((0:Nat):Int)≤c.a) && decide (c.a≤(k-((1:Nat):Int))))) (fun wq=>B3 wq _ _ _ hc.2.1 oM oM) ?_
    rw[show(decide (((0:Nat):Int)≤c.a) && decide (c.a≤(k-((1:Nat):Int))))=true from Ee]
    refine Ad 2 Z<|Ak (p:=zP w.heap.size) 2 Bu Z Z (Ag (e:=56) Z Z Z)<|Ae (p:=An (zP w.heap.size) 2) (.inr Z) (zI c.b) AC Z (a0.ldp (i:=2) sM) (Ag (e:=56) Z Z Z)<|Ad 1 Z ?_
    refine Bi (k-((1:Nat):Int)) Z Z (CT sD sD) (Ag (e:=56) Z Z Z) ?_
    refine AB 94 [] [] [zI c.b,zI ((0:Nat):Int),zI (k-((1:Nat):Int))] Z Z E7 (Ag (e:=56) Z Z Z) (.bool (decide (((0:Nat):Int)≤c.b) && decide (c.b≤(k-((1:Nat):Int))))) (fun wq=>B3 wq _ _ _ hc.2.2.1 oM oM) ?_
    rw[show(decide (((0:Nat):Int)≤c.b) && decide (c.b≤(k-((1:Nat):Int))))=true from Ee]
    exact Ac 2 Z<|A1<|AH<|Ao<|Af [6] Z (.bool true) Z ⟨HG,a1⟩
  refine Ap false Z Z (A6 a3) Aa<|Ac 1 Z<|Ai Z<|ZN [0,0] Z ?_
  by_cases a4:c.op=((5:Nat):Int)
  ·
    refine Ap true Z Z (A5 a4) Aa<|Ac 1 Z<|Ah Z<|A2<|Ah Z<|ZN [0,2,0,0,0,2,0,0,0,0,0,0,2,0,0,0,0,0] Z ?_
    unfold DI at hf
    refine Ak (p:=zP w.heap.size) 3 Cy Z Z Aa<|Ae (p:=An (zP w.heap.size) 3) (.inr Z) (zI c.num) AC Z (a0.ldp (i:=3) sM) Aa ?_
    have a9:c.num=((0:Nat):Int):=oM
    refine Ap true Z Z (A5 a9) Aa<|Ad 1 Z<|Ak (p:=zP w.heap.size) 1 Bt Z Z (Ag (e:=49) Z Z Z)<|Ae (p:=An (zP w.heap.size) 1) (.inr Z) (zI c.a) AC Z (a0.ldp (i:=1) sM) (Ag (e:=49) Z Z Z)<|Ad 1 Z ?_
    refine Bi (k-((1:Nat):Int)) Z Z (CT sD sD) (Ag (e:=49) Z Z Z) ?_
    refine AB 94 [] [] [zI c.a,zI ((0:Nat):Int),zI (k-((1:Nat):Int))] Z Z E7 (Ag (e:=49) Z Z Z) (.bool (decide (((0:Nat):Int)≤c.a) && decide (c.a≤(k-((1:Nat):Int))))) (fun wq=>B3 wq _ _ _ hc.2.1 oM oM) ?_
    rw[show(decide (((0:Nat):Int)≤c.a) && decide (c.a≤(k-((1:Nat):Int))))=true from Ee]
    refine Ad 2 Z<|Ak (p:=zP w.heap.size) 2 Bu Z Z (Ag (e:=56) Z Z Z)<|Ae (p:=An (zP w.heap.size) 2) (.inr Z) (zI c.b) AC Z (a0.ldp (i:=2) sM) (Ag (e:=56) Z Z Z)<|Ad 1 Z ?_
    refine Bi (k-((1:Nat):Int)) Z Z (CT sD sD) (Ag (e:=56) Z Z Z) ?_
    refine AB 94 [] [] [zI c.b,zI ((0:Nat):Int),zI (k-((1:Nat):Int))] Z Z E7 (Ag (e:=56) Z Z Z) (.bool (decide (((0:Nat):Int)≤c.b) && decide (c.b≤(k-((1:Nat):Int))))) (fun wq=>B3 wq _ _ _ hc.2.2.1 oM oM) ?_
    rw[show(decide (((0:Nat):Int)≤c.b) && decide (c.b≤(k-((1:Nat):Int))))=true from Ee]
    exact Ac 2 Z<|A1<|AH<|Ao<|Af [6] Z (.bool true) Z ⟨HG,a1⟩
  refine Ap false Z Z (A6 a4) Aa<|Ac 1 Z<|Ai Z<|Ab _ [0,0] Z ?_
  by_cases a5:c.op=((6:Nat):Int)
  ·
    refine Ap true Z Z (A5 a5) Aa<|Ac 1 Z<|Ah Z<|ZN [0,2,0,0,0,2,0,0,0,0,0,0,2,0,0,0,0,0] Z ?_
    unfold DI at hf
    refine Ak (p:=zP w.heap.size) 3 Cy Z Z Aa<|Ae (p:=An (zP w.heap.size) 3) (.inr Z) (zI c.num) AC Z (a0.ldp (i:=3) sM) Aa ?_
    have aa:c.num=((0:Nat):Int):=oM
    refine Ap true Z Z (A5 aa) Aa<|Ad 1 Z<|Ak (p:=zP w.heap.size) 1 Bt Z Z (Ag (e:=49) Z Z Z)<|Ae (p:=An (zP w.heap.size) 1) (.inr Z) (zI c.a) AC Z (a0.ldp (i:=1) sM) (Ag (e:=49) Z Z Z)<|Ad 1 Z ?_
    refine Bi (k-((1:Nat):Int)) Z Z (CT sD sD) (Ag (e:=49) Z Z Z) ?_
    refine AB 94 [] [] [zI c.a,zI ((0:Nat):Int),zI (k-((1:Nat):Int))] Z Z E7 (Ag (e:=49) Z Z Z) (.bool (decide (((0:Nat):Int)≤c.a) && decide (c.a≤(k-((1:Nat):Int))))) (fun wq=>B3 wq _ _ _ hc.2.1 oM oM) ?_
    rw[show(decide (((0:Nat):Int)≤c.a) && decide (c.a≤(k-((1:Nat):Int))))=true from Ee]
    refine Ad 2 Z<|Ak (p:=zP w.heap.size) 2 Bu Z Z (Ag (e:=56) Z Z Z)<|Ae (p:=An (zP w.heap.size) 2) (.inr Z) (zI c.b) AC Z (a0.ldp (i:=2) sM) (Ag (e:=56) Z Z Z)<|Ad 1 Z ?_
    refine Bi (k-((1:Nat):Int)) Z Z (CT sD sD) (Ag (e:=56) Z Z Z) ?_
    refine AB 94 [] [] [zI c.b,zI ((0:Nat):Int),zI (k-((1:Nat):Int))] Z Z E7 (Ag (e:=56) Z Z Z) (.bool (decide (((0:Nat):Int)≤c.b) && decide (c.b≤(k-((1:Nat):Int))))) (fun wq=>B3 wq _ _ _ hc.2.2.1 oM oM) ?_
    rw[show(decide (((0:Nat):Int)≤c.b) && decide (c.b≤(k-((1:Nat):Int))))=true from Ee]
    exact Ac 2 Z<|A1<|AH<|Ao<|Af [6] Z (.bool true) Z ⟨HG,a1⟩
  refine Ap false Z Z (A6 a5) Aa<|Ac 1 Z<|Ai Z<|ZN [0,0] Z ?_
  by_cases a6:c.op=((7:Nat):Int)
  ·
    refine Ap true Z Z (A5 a6) Aa<|Ac 1 Z<|Ah Z<|ZN [0,2,0,0,0,2,0,0,0,0,2,0,0,0,0,0] Z ?_
    unfold DI at hf
    refine Ak (p:=zP w.heap.size) 3 Cy Z Z Aa<|Ae (p:=An (zP w.heap.size) 3) (.inr Z) (zI c.num) AC Z (a0.ldp (i:=3) sM) Aa ?_
    have ab:c.num=((0:Nat):Int):=oM
    refine Ap true Z Z (A5 ab) Aa<|Ad 1 Z<|Ak (p:=zP w.heap.size) 2 Bu Z Z (Ag (e:=68) Z Z Z)<|Ae (p:=An (zP w.heap.size) 2) (.inr Z) (zI c.b) AC Z (a0.ldp (i:=2) sM) (Ag (e:=68) Z Z Z) ?_
    have ac:c.b=((0:Nat):Int):=oM
    refine Ap true Z Z (A5 ac) (Ag (e:=68) Z Z Z)<|Ad 2 Z<|Ak (p:=zP w.heap.size) 1 Bt Z Z (Ag (e:=73) Z Z Z)<|Ae (p:=An (zP w.heap.size) 1) (.inr Z) (zI c.a) AC Z (a0.ldp (i:=1) sM) (Ag (e:=73) Z Z Z)<|Ad 1 Z ?_
    refine Bi (k-((1:Nat):Int)) Z Z (CT sD sD) (Ag (e:=73) Z Z Z) ?_
    refine AB 94 [] [] [zI c.a,zI ((0:Nat):Int),zI (k-((1:Nat):Int))] Z Z E7 (Ag (e:=73) Z Z Z) (.bool (decide (((0:Nat):Int)≤c.a) && decide (c.a≤(k-((1:Nat):Int))))) (fun wq=>B3 wq _ _ _ hc.2.1 oM oM) ?_
    rw[show(decide (((0:Nat):Int)≤c.a) && decide (c.a≤(k-((1:Nat):Int))))=true from Ee]
    exact Ac 2 Z<|A1<|AH<|Ao<|Af [6] Z (.bool true) Z ⟨HG,a1⟩
  exact Ap false Z Z (A6 a6) Aa<|Ac 1 Z<|Ai Z<|A2<|ZO Z<|A1<|Af [6] Z (.bool false) Z ⟨HG,a1⟩
theorem CR {p:Prop}(h:p:=by simp[DQ,DU]):p:=h
theorem Nt (w:World)(a:Sr)(vt:Value)(ipT:Int)(T:Tp)(oT:Sr)(hT:RN [] (rP T4) w.heap vt ⟨ipT,T,oT⟩)(hip:ipT=(a.length:Int))(hR:Ob a T oT) :
    Calls Tryz.prog 249 #[vt] w (fun e w'=>e=.returned (.bool true)∧AF w w'):=by
  refine As [vt] 103 Tryz.func249 Z Z sM ?_
  have a4:AF w w:=AF.refl w
  have hK:=hR.k
  have hni:=hK.nb
  have hcl:=hK.cl
  have b2:=hK.gl
  have hol:=hK.ol
  have hpos:=hK.pos
  refine ZO Z<|ZN [0,0,0,2,0,0] Z<|Ad 1 Z<|AG (hT.isPtr) Z Aa ?_
  obtain⟨cs1,ao,a0⟩:=RN.at Dk hT
  obtain⟨ay,vg1,vx1,rfl,ae,a5,a6,a7⟩:=RTp.of ao
  replace ae:Bk ipT:=ae
  replace a5:RN [] (Cj 4 Jy) w.heap ay T.code:=a5
  replace a6:RN [] (Cj 2 Jz) w.heap vg1 T.grd:=a6
  replace a7:RN [] (B5 rI) w.heap vx1 oT:=a7
  refine AD (p:=vt) 1 Cb Z (a0 _<|AA.of_ext [] a4) Aa<|Ae (p:=An vt 1) (.inr Z) ay Dv Z ((a0 _<|AA.of_ext [] a4).ld (i:=1) CR) Aa<|AP (v:=ay) IP Z a5.isSl Aa<|Ac 1 Z<|A0<|ZN [0,0,0,2,0,0,0,0,0,0,0,0,0,0,2,0,0,0,0,0,0,0,2,0,0,0,0] Z<|Ad 1 Z<|AG (hT.isPtr) Z Aa<|AD (p:=vt) 0 Ga Z (a0 _<|AA.of_ext [] a4) Aa<|Ae (p:=An vt 0) (.inr Z) (zI ipT) AC Z ((a0 _<|AA.of_ext [] a4).ld (i:=0) CR) Aa ?_
  refine AB 94 [] [] [zI ipT,zI ((0:Nat):Int),zI ((12:Nat):Int)] Z Z E7 Aa (.bool (decide (((0:Nat):Int)≤ipT) && decide (ipT≤((12:Nat):Int)))) (fun wq=>B3 wq _ _ _ ae oM oM) ?_
  rw[show(decide (((0:Nat):Int)≤ipT) && decide (ipT≤((12:Nat):Int)))=true from Ee]
  refine Bd false Z Z Aa<|Ad 2 Z ?_
  have ap:¬(((3200:Nat):Int)<(T.code.length:Int)):=oM
  refine BU false Z Z (A6 ap) (Ag (e:=18) Z Z Z)<|Ad 3 Z<|AG (hT.isPtr) Z (Ag (e:=22) Z Z Z)<|AD (p:=vt) 2 GQ Z (a0 _<|AA.of_ext [] a4) (Ag (e:=22) Z Z Z)<|Ae (p:=An vt 2) (.inr Z) vg1 Lk Z ((a0 _<|AA.of_ext [] a4).ld (i:=2) CR) (Ag (e:=22) Z Z Z)<|AP (v:=vg1) T5 Z a6.isSl (Ag (e:=22) Z Z Z) ?_
  have aq:¬(((3200:Nat):Int)<(T.grd.length:Int)):=oM
  refine BU false Z Z (A6 aq) (Ag (e:=22) Z Z Z)<|Ad 3 Z<|AG (hT.isPtr) Z (Ag (e:=30) Z Z Z)<|AD (p:=vt) 3 Em Z (a0 _<|AA.of_ext [] a4) (Ag (e:=30) Z Z Z)<|Ae (p:=An vt 3) (.inr Z) vx1 AZ Z ((a0 _<|AA.of_ext [] a4).ld (i:=3) CR) (Ag (e:=30) Z Z Z)<|AP (v:=vx1) Bl Z a7.slL (Ag (e:=30) Z Z Z)<|AB 94 [] [] [zI (oT.length:Int),zI ((1:Nat):Int),zI ((12:Nat):Int)] Z Z E7 (Ag (e:=30) Z Z Z) (.bool (decide (((1:Nat):Int)≤(oT.length:Int)) && decide ((oT.length:Int)≤((12:Nat):Int)))) (fun wq=>B3 wq _ _ _ oM oM oM) ?_
  rw[show(decide (((1:Nat):Int)≤(oT.length:Int)) && decide ((oT.length:Int)≤((12:Nat):Int)))=true from Ee]
  refine Bd false Z Z (Ag (e:=30) Z Z Z)<|Ac 1 Z<|Ai Z<|A2<|A0<|ZO Z<|A3<|AT (S:=Nat) (fun k=>([(4,zI (k:Int)),(0,vt),(3,zI (T.code.length:Int))])) (fun k W=>AF w W∧k≤T.code.length) (fun k=>T.code.length-k) 0 ⟨rfl,rfl,rfl,trivial⟩ ⟨a4,oM⟩ ?_
  clear a4
  rintro k ρ6 w6 ⟨a3,al⟩
  have ag:w.heap.size≤w6.heap.size:=a3.size
  refine A0<|ZN [0,0,0,0,2,0,0] Z<|Ad 2 Z<|AG (hT.isPtr) Z Aa<|AD (p:=vt) 1 Cb Z (a0 _<|AA.of_ext [] a3) Aa<|Ae (p:=An vt 1) (.inr Z) ay Dv Z ((a0 _<|AA.of_ext [] a3).ld (i:=1) CR) Aa<|AP (v:=ay) IP Z a5.isSl Aa ?_
  by_cases am:(k:Int)<(T.code.length:Int)
  ·
    refine AE true Z Z (A5 am) Aa<|Aj<|Ah Z<|A2<|A0<|A3<|A0<|AO _ [0,0,0,1,0,0,1,0,0,0,0,1,3,0] mixed (by kernel_rfl)<|Ad 1 Z<|AG (hT.isPtr) Z Aa<|AD (p:=vt) 1 Cb Z (a0 _<|AA.of_ext [] a3.drew) Aa<|Ae (p:=An vt 1) (.inl Z) ay Dv Z ((a0 _<|AA.of_ext [] a3.drew).ld (i:=1) CR) Aa<|Ad 1 Z ?_
    refine Au (v:=ay) k IP EM Z Z a5.isSl Z sD Aa ?_
    obtain⟨cs8,ar,au⟩:=a5.get AW Az.zero (k:=k) sD
    obtain⟨rfl,af⟩:=Hr ar
    refine AJ (p:=Aw ay k 4) (.inl Z) [zI<|(T.code.getD k Az.zero).op,zI<|(T.code.getD k Az.zero).a,zI<|(T.code.getD k Az.zero).b,zI<|(T.code.getD k Az.zero).num] DE Z (fun az av=>au az<|AA.of_ext []<|a3.drew.trans av) Z Aa<|Ad 2 Z<|AG (hT.isPtr) Z Aa<|AD (p:=vt) 0 Ga Z (a0 _<|AA.of_ext [] a3.drew) Aa<|Ae (p:=An vt 0) (.inl Z) (zI ipT) AC Z ((a0 _<|AA.of_ext [] a3.drew).ld (i:=0) CR) Aa ?_
    refine Am 256 [] [] [.agg #[zI<|(T.code.getD k Az.zero).op,zI<|(T.code.getD k Az.zero).a,zI<|(T.code.getD k Az.zero).b,zI<|(T.code.getD k Az.zero).num],zI (k:Int),zI ipT] Z Z Yx Aa (Kj _ (⟨(T.code.getD k Az.zero).op,(T.code.getD k Az.zero).a,(T.code.getD k Az.zero).b,(T.code.getD k Az.zero).num⟩:Az) _ _ ⟨af.1,af.2.1,af.2.2.1,af.2.2.2⟩ oM ae oM oM (by rw[hip,Int.toNat_natCast,Int.toNat_natCast];exact hK.form k oM)) ?_
    rintro e9 w9 ⟨rfl,a8⟩
    refine⟨_,rfl,a8,?_⟩
    replace a8:=a8.of_drew
    have aw:=a8.size
    have ax:=a3.trans a8
    exact Bd false Z Z Aa<|Aj<|Ai Z<|A2<|Ab _ [0,0,0] Z<|Ad 1 Z<|AQ ((k+1:Nat):Int) Z Z (Be oM sD) Aa<|Ac 1 Z ⟨k+1,_,rfl,zR,⟨ax,oM⟩,zD⟩
  refine AE false Z Z (A6 am) Aa<|Aj<|Ai Z<|A4<|Ay<|Ay<|At<|A0<|ZO Z<|A3<|AT (S:=Nat) (fun j=>([(5,zI (j:Int)),(0,vt),(3,zI (T.code.length:Int))])) (fun j W=>AF w W∧j≤T.grd.length) (fun j=>T.grd.length-j) 0 ⟨rfl,rfl,rfl,trivial⟩ ⟨a3,oM⟩ ?_
  clear a3 ag
  rintro j ρ10 b0 ⟨a1,ah⟩
  have a9:w.heap.size≤b0.heap.size:=a1.size
  refine A0<|ZN [0,0,0,0,2,0,0] Z<|Ad 2 Z<|AG (hT.isPtr) Z Aa<|AD (p:=vt) 2 GQ Z (a0 _<|AA.of_ext [] a1) Aa<|Ae (p:=An vt 2) (.inr Z) vg1 Lk Z ((a0 _<|AA.of_ext [] a1).ld (i:=2) CR) Aa<|AP (v:=vg1) T5 Z a6.isSl Aa ?_
  by_cases aa:(j:Int)<(T.grd.length:Int)
  ·
    refine AE true Z Z (A5 aa) Aa<|Aj<|Ah Z<|A2<|A0<|A3<|ZN [0,0,0,2,0,0,0,2,0,0,0,0] Z ?_
    have hgj:=hK.gd j oM
    refine Ad 1 Z<|AG (hT.isPtr) Z Aa<|AD (p:=vt) 2 GQ Z (a0 _<|AA.of_ext [] a1) Aa<|Ae (p:=An vt 2) (.inr Z) vg1 Lk Z ((a0 _<|AA.of_ext [] a1).ld (i:=2) CR) Aa<|Ad 1 Z<|Au (v:=vg1) j T5 JE Z Z a6.isSl Z sD Aa ?_
    obtain⟨cs12,ai,ab⟩:=a6.get B6 Gr.zero (k:=j) sD
    obtain⟨rfl,aj⟩:=RR ai
    refine AD (p:=Aw vg1 j 2) 0 PZ Z (ab _<|AA.of_ext [] a1) Aa<|Ae (p:=An (Aw vg1 j 2) 0) (.inr Z) (zI<|(T.grd.getD j Gr.zero).reg) AC Z ((ab _<|AA.of_ext [] a1).ld (i:=0) CR) Aa<|Ad 1 Z ?_
    refine Bi ((T.code.length:Int)-((1:Nat):Int)) Z Z (CT sD sD) Aa ?_
    refine AB 94 [] [] [zI<|(T.grd.getD j Gr.zero).reg,zI ((0:Nat):Int),zI ((T.code.length:Int)-((1:Nat):Int))] Z Z E7 Aa (.bool (decide (((0:Nat):Int)≤((T.grd.getD j Gr.zero).reg)) && decide (((T.grd.getD j Gr.zero).reg)≤((T.code.length:Int)-((1:Nat):Int))))) (fun wq=>B3 wq _ _ _ aj oM oM) ?_
    rw[show(decide (((0:Nat):Int)≤((T.grd.getD j Gr.zero).reg)) && decide (((T.grd.getD j Gr.zero).reg)≤((T.code.length:Int)-((1:Nat):Int))))=true from Ee]
    exact Bd false Z Z Aa<|Aj<|Ai Z<|A2<|Ab _ [0,0,0] Z<|Ad 1 Z<|AQ ((j+1:Nat):Int) Z Z (Be oM sD) Aa<|Ac 1 Z ⟨j+1,_,rfl,zR,⟨a1,oM⟩,zD⟩
  refine AE false Z Z (A6 aa) Aa<|Aj<|Ai Z<|A4<|Ay<|Ay<|At<|A0<|ZO Z<|A3<|AT (S:=Nat) (fun i=>([(6,zI (i:Int)),(0,vt),(3,zI (T.code.length:Int))])) (fun i W=>AF w W∧i≤oT.length) (fun i=>oT.length-i) 0 ⟨rfl,rfl,rfl,trivial⟩ ⟨a1,oM⟩ ?_
  clear a1 a9
  rintro i ρ14 b1 ⟨a2,ak⟩
  have an:w.heap.size≤b1.heap.size:=a2.size
  refine A0<|ZN [0,0,0,0,2,0,0] Z<|Ad 2 Z<|AG (hT.isPtr) Z Aa<|AD (p:=vt) 3 Em Z (a0 _<|AA.of_ext [] a2) Aa<|Ae (p:=An vt 3) (.inr Z) vx1 AZ Z ((a0 _<|AA.of_ext [] a2).ld (i:=3) CR) Aa<|AP (v:=vx1) Bl Z a7.slL Aa ?_
  by_cases ac:(i:Int)<(oT.length:Int)
  ·
    refine AE true Z Z (A5 ac) Aa<|Aj<|Ah Z<|A2<|A0<|A3<|ZN [0,0,0,2,0,0,2,0,0,0,0] Z ?_
    have hoj:=hK.out i oM
    refine Ad 1 Z<|AG (hT.isPtr) Z Aa<|AD (p:=vt) 3 Em Z (a0 _<|AA.of_ext [] a2) Aa<|Ae (p:=An vt 3) (.inr Z) vx1 AZ Z ((a0 _<|AA.of_ext [] a2).ld (i:=3) CR) Aa<|Ad 1 Z<|Au (v:=vx1) i Bl BD Z Z a7.slL Z sD Aa ?_
    have ad:=RN.getI (w:=w) (k:=i) a7 sD
    refine Ae (p:=Aw vx1 i 1) (.inr Z) (zI<|oT.getD i 0) AC Z (ad.1 _<|AA.of_ext [] a2) Aa<|Ad 1 Z ?_
    refine Bi ((T.code.length:Int)-((1:Nat):Int)) Z Z (CT sD sD) Aa ?_
    refine AB 94 [] [] [zI<|oT.getD i 0,zI ((0:Nat):Int),zI ((T.code.length:Int)-((1:Nat):Int))] Z Z E7 Aa (.bool (decide (((0:Nat):Int)≤(oT.getD i 0)) && decide ((oT.getD i 0)≤((T.code.length:Int)-((1:Nat):Int))))) (fun wq=>B3 wq _ _ _ ad.2 oM oM) ?_
    rw[show(decide (((0:Nat):Int)≤(oT.getD i 0)) && decide ((oT.getD i 0)≤((T.code.length:Int)-((1:Nat):Int))))=true from Ee]
    exact Bd false Z Z Aa<|Aj<|Ai Z<|A2<|Ab _ [0,0,0] Z<|Ad 1 Z<|AQ ((i+1:Nat):Int) Z Z (Be oM sD) Aa<|Ac 1 Z ⟨i+1,_,rfl,zR,⟨a2,oM⟩,zD⟩
  exact AE false Z Z (A6 ac) Aa<|Aj<|Ai Z<|A4<|Ay<|Ay<|At<|ZO Z<|A1<|Af [2] Z (.bool true) Z ⟨rfl,a2⟩
theorem Kk (w:World)(vt:Value)(ipT:Int)(T:Tp)(oT:Sr)(va:Value)(a:Sr)(hT:RN [] (rP T4) w.heap vt ⟨ipT,T,oT⟩)(ha:Rd (B5 rI) w.heap va a)(hip:ipT=(a.length:Int))(hR:Ob a T oT) :
    Calls Tryz.prog 227 #[vt,va] w (fun e w'=>e=.returned (zI 0)∧AF w w'):=by
  refine As [vt,va] 20 Tryz.func227 Z Z sM ?_
  have a3:AF w w:=AF.refl w
  have ae:=ha.lenle
  have hK:=hR.k
  have hni:=hK.nb
  have hcl:=hK.cl
  have ag:=hK.gl
  have hol:=hK.ol
  have hpos:=hK.pos
  have hna:=hR.n
  refine ZO Z<|A0<|ZN [0,3,0] Z<|Ad 1 Z<|Am 249 [] [] [vt] Z Z Yr Aa (Nt _ a vt ipT T oT (hT.ext (AX Dk) a3) oM hR) ?_
  rintro e1 w1 ⟨rfl,a1⟩
  refine⟨_,rfl,a1,?_⟩
  have a9:=a1.size
  have a0:=a3.trans a1
  refine Bd false Z Z Aa<|Aj<|Ai Z<|A2<|A0<|ZN [0,0,0,0,0,2,0,0,0,3,0,0] Z<|Ad 1 Z<|AP (v:=va) Bl Z ha.isSl Aa<|Ad 1 Z<|AG (hT.isPtr) Z Aa ?_
  obtain⟨cs2,aa,a4⟩:=RN.at Dk hT
  obtain⟨af,vg2,vx2,rfl,a5,a6,a7,a8⟩:=RTp.of aa
  replace a5:Bk ipT:=a5
  replace a6:RN [] (Cj 4 Jy) w.heap af T.code:=a6
  replace a7:RN [] (Cj 2 Jz) w.heap vg2 T.grd:=a7
  replace a8:RN [] (B5 rI) w.heap vx2 oT:=a8
  refine AD (p:=vt) 0 Ga Z (a4 _<|AA.of_ext [] a0) Aa<|Ae (p:=An vt 0) (.inr Z) (zI ipT) AC Z ((a4 _<|AA.of_ext [] a0).ld (i:=0) (by simp[DQ,DU])) Aa ?_
  have ab:¬((a.length:Int)≠ipT):=oM
  refine AU false Z Z (A6 ab) Aa<|Ad 2 Z<|Am 113 [] [] [va] Z Z Of (Ag (e:=15) Z Z Z) (CD _ _ _<|ha.ext g1 a0) ?_
  rintro e4 w4 ⟨rfl,a2⟩
  refine⟨_,rfl,a2,?_⟩
  have ac:=a2.size
  have ad:=a0.trans a2
  rw[show(B9 a)=true from hna]
  exact Bd false Z Z (Ag (e:=15) Z Z Z)<|Ac 1 Z<|Ai Z<|A2<|ZO Z<|A1<|Af [4] Z (zI ((0:Nat):Int)) Z ⟨rfl,ad⟩
theorem Jj (w:World)(vt:Value)(ipT:Int)(T:Tp)(oT:Sr)(va:Value)(a:Sr)(vw:Value)(ws:Sr)(vd:Value)(d:Sr)(hT:RN [] (rP T4) w.heap vt ⟨ipT,T,oT⟩)(ha:Rd (B5 rI) w.heap va a)(hws:Rd (B5 rI) w.heap vw ws)(hd:Rd (B5 rI) w.heap vd d)(hip:ipT=(a.length:Int))(hR:Ob a T oT)(hw:ws.length=oT.length∧B9 ws=true)(hdd:d.length=a.length∧B9 d=true) :
    Calls Tryz.prog 182 #[vt,va,vw,vd] w (fun e w'=>e=.returned (zI 0)∧AF w w'):=by
  refine As [vt,va,vw,vd] 45 Tryz.func182 Z Z sM ?_
  have a3:AF w w:=AF.refl w
  have aj:=ha.lenle
  have ak:=hws.lenle
  have al:=hd.lenle
  have hK:=hR.k
  have hni:=hK.nb
  have hcl:=hK.cl
  have an:=hK.gl
  have hol:=hK.ol
  have hpos:=hK.pos
  refine ZO Z<|ZN [0,0,3,0] Z<|Ad 2 Z<|Am 227 [] [] [vt,va] Z Z Yi Aa (Kk _ vt ipT T oT _ _ (hT.ext (AX Dk) a3) (ha.ext g1 a3) oM hR) ?_
  rintro e1 w1 ⟨rfl,a4⟩
  refine⟨_,rfl,a4,?_⟩
  have ab:=a4.size
  have a0:=a3.trans a4
  refine Ac 1 Z<|A0<|ZN [0,0,0,0,0,0,0,0,2,0,0,0,0,3,0,0,0,0,0,0,0,0,2,0,0,0,0,3,0,0,0] Z<|Ad 1 Z ?_
  have ac:0=((0:Nat):Int):=rfl
  refine Ap true Z Z (A5 ac) Aa<|Ad 2 Z<|AP (v:=vw) Bl Z hws.isSl (Ag (e:=15) Z Z Z)<|Ad 1 Z<|AG (hT.isPtr) Z (Ag (e:=15) Z Z Z) ?_
  obtain⟨cs3,ad,a1⟩:=RN.at Dk hT
  obtain⟨am,vg3,vx3,rfl,a8,a9,aa,a5⟩:=RTp.of ad
  replace a8:Bk ipT:=a8
  replace a9:RN [] (Cj 4 Jy) w.heap am T.code:=a9
  replace aa:RN [] (Cj 2 Jz) w.heap vg3 T.grd:=aa
  replace a5:RN [] (B5 rI) w.heap vx3 oT:=a5
  refine AD (p:=vt) 3 Em Z (a1 _<|AA.of_ext [] a0) (Ag (e:=15) Z Z Z)<|Ae (p:=An vt 3) (.inr Z) vx3 AZ Z ((a1 _<|AA.of_ext [] a0).ld (i:=3) (by simp[DQ,DU])) (Ag (e:=15) Z Z Z)<|AP (v:=vx3) Bl Z a5.slL (Ag (e:=15) Z Z Z) ?_
  have ae:¬((ws.length:Int)≠(oT.length:Int)):=oM
  refine AU false Z Z (A6 ae) (Ag (e:=15) Z Z Z)<|Ad 2 Z<|Am 113 [] [] [vw] Z Z Of (Ag (e:=24) Z Z Z) (CD _ _ _<|hws.ext g1 a0) ?_
  rintro e5 w5 ⟨rfl,a6⟩
  refine⟨_,rfl,a6,?_⟩
  have af:=a6.size
  have a2:=a0.trans a6
  rw[show(B9 ws)=true from hw.2]
  refine Bd false Z Z (Ag (e:=24) Z Z Z)<|Ad 3 Z<|AP (v:=vd) Bl Z hd.isSl (Ag (e:=29) Z Z Z)<|Ad 1 Z<|AG (hT.isPtr) Z (Ag (e:=29) Z Z Z)<|AD (p:=vt) 0 Ga Z (a1 _<|AA.of_ext [] a2) (Ag (e:=29) Z Z Z)<|Ae (p:=An vt 0) (.inr Z) (zI ipT) AC Z ((a1 _<|AA.of_ext [] a2).ld (i:=0) (by simp[DQ,DU])) (Ag (e:=29) Z Z Z) ?_
  have ag:¬((d.length:Int)≠ipT):=oM
  refine AU false Z Z (A6 ag) (Ag (e:=29) Z Z Z)<|Ad 3 Z<|Am 113 [] [] [vd] Z Z Of (Ag (e:=38) Z Z Z) (CD _ _ _<|hd.ext g1 a2) ?_
  rintro e7 w7 ⟨rfl,a7⟩
  refine⟨_,rfl,a7,?_⟩
  have ah:=a7.size
  have ai:=a2.trans a7
  rw[show(B9 d)=true from hdd.2]
  exact Bd false Z Z (Ag (e:=38) Z Z Z)<|Ac 2 Z<|Ai Z<|A2<|ZN [0,0] Z<|Ac 2 Z<|A1<|Af [8] Z (zI 0) Z ⟨rfl,ai⟩
theorem HI {p:Prop}(h:p:=by first|omega|assumption|(simp only[zb,z9,z4,z6,z5,Ev];omega)|(simp[zb,z9,z4,z6,z5,Ev];done)|(simp[zb,z9,z4,z6,z5,Ev];omega)):p:=h
theorem LK (w:World)(va:Value)(a:Sr)(vd:Value)(d:Sr)(o:Int)(ha:Rd (B5 rI) w.heap va a)(hd:Rd (B5 rI) w.heap vd d)(_ho:Bk o)(ho:o=0)(hla:a.length≤1000000) :
    Calls Tryz.prog 184 #[va,vd,zI o] w (fun e w'=>∃v0:Value,e=.returned (v0)∧AF w w'∧Fr (Bo (Bo rI 2) 27) w.heap.size w'.heap.size w'.heap v0 (Cq a)):=by
  refine As [va,vd,zI o] 37 Tryz.func184 Z Z sM ?_
  have ab:AF w w:=AF.refl w
  have av:=ha.lenle
  have aw:=hd.lenle
  refine ZO Z<|ZN [3,0] Z (Cp (Bo rI 2) o1 Bs AV Aa fun v1 w1 a6 ah ac=>?_)
  have a7:=a6.size
  have ad:=ab.trans a6
  refine Ac 1 Z<|A0<|ZO Z<|A3 ?_
  refine AT (S:=Nat×Value) (fun⟨k,vo⟩=>([(7,vo),(8,zI (k:Int)),(0,va),(1,vd),(2,zI o)])) (fun⟨k,vo⟩ W=>AF w W∧Fr (Bo (Bo rI 2) 27) w.heap.size W.heap.size W.heap vo ((Cq a).take k)∧k≤a.length) (fun⟨k,vo⟩=>a.length-k) (0,v1) ⟨rfl,rfl,rfl,rfl,rfl,trivial⟩ ⟨ad,ac.up o2,HI⟩ ?_
  clear ab ac ah a6 a7 ad
  rintro⟨k,vo⟩ ρ2 w2 ⟨a3,a2,ae⟩
  have ai:w.heap.size≤w2.heap.size:=a3.size
  refine A0<|ZN [0,0,0,0] Z<|Ad 2 Z<|AP (v:=va) Bl Z ha.isSl Aa ?_
  by_cases af:(k:Int)<(a.length:Int)
  ·
    refine AE true Z Z (A5 af) Aa<|Aj<|Ah Z<|A2<|A0<|A3<|ZN [0,0,0,2,0,0,3,0] Z<|Ad 2 Z<|Au (v:=va) k Bl BD Z Z ha.isSl Z HI Aa ?_
    refine Ae (p:=Aw va k 1) (.inr Z) (zI<|a.getD k 0) AC Z (Bc a3 (ha.getI HI).1) Aa<|Ad 1 Z<|AQ ((o.toNat+1:Nat):Int) Z Z (by rw[CT oM oM];omega) Aa ?_
    refine Am 203 [] [] [zI<|a.getD k 0,zI ((o.toNat+1:Nat):Int)] Z Z Li Aa (Cf _ _ (o.toNat+1) (ha.getI HI).2 HI oM) ?_
    rintro e4 w4 ⟨a8,rfl,a5,a4⟩
    refine⟨_,rfl,a5,?_⟩
    have aj:=a5.size
    have ak:=a3.trans a5
    have a0:=a2.ext (o2) a5
    refine Ac 1 Z<|A0<|ZN [0,0] Z<|Ad 1 Z ?_
    have al:¬(((0:Nat):Int)<o):=oM
    refine BU false Z Z (A6 al) Aa<|Aj<|Ai Z<|A2<|Ab _ [0,0,3,4,0] Z<|Ad 2 Z (By (u:=a8) (B:=w2.heap.size) o1 Bs AV Z Z a4 (by first|exact A7 _|omega) Aa fun v6 w6 a9 au am=>?_)
    have an:=a9.size
    have aa:=ak.trans a9
    have a1:=a0.ext (o2) a9
    refine GF o1 (v:=vo) (a:=v6) Bs AV Z Z Z a1 aa.size am oM a3.size HI (by unfold maxLen;first|omega|assumption|(simp only[zb,z9,z4,z6,z5,Ev];omega)|(simp[zb,z9,z4,z6,z5,Ev];done)|(simp[zb,z9,z4,z6,z5,Ev];omega)) Aa fun v7 w7 F7 ag ao ap=>?_
    have aq:AF w w7:=ag.below aa (fun c hc=>A8 (A7 _) (ao c hc).1) aa.size
    have ar:w6.heap.size≤w7.heap.size:=ag.size
    refine Ac 1 Z<|Ab _ [0,0,0] Z<|Ad 1 Z<|AQ ((k+1:Nat):Int) Z Z (Be oM HI) Aa<|Ac 1 Z ?_
    exact⟨(k+1,v7),_,rfl,zR,⟨aq,(by rw[Dn [] (by rw[EG];omega),R9 _ oM];have h:=ap.up o2;rw[show o.toNat+1=1 from by omega]at h;exact h),HI⟩,zD⟩
  exact AE false Z Z (A6 af) Aa<|Aj<|Ai Z<|A4<|Ay<|Ay<|At<|ZN [0,0] Z<|Ac 2 Z<|A1<|Af [6] Z vo Z ⟨vo,rfl,a3,(by have h:=a2.up o2;rwa [za (by rw[EG];omega)]at h)⟩
theorem IJ {p:Prop}(h:p:=by first|(rw[C8 oM,MX oM];exact⟨_,_,by assumption⟩)|(rw[C8 oM,L7 oM];exact⟨_,_,by assumption⟩)|(rw[C8 oM,L8 oM];exact⟨_,_,by assumption⟩)|(rw[C8 oM,L9 oM];exact⟨_,_,by assumption⟩)|(rw[C8 oM,Lb oM];exact⟨_,_,by assumption⟩)|(rw[C8 oM,Lc oM];exact⟨_,_,by assumption⟩)|(rw[C8 oM,La oM,← Nn];exact⟨_,_,by assumption⟩)):p:=h
theorem IK {p:Prop}(h:p:=by unfold maxLen;first|omega|assumption|(simp only[zb,z9,z4,z6,z5];omega)|(simp[zb,z9,z4,z6,z5];done)|(simp[zb,z9,z4,z6,z5];omega)):p:=h
theorem IL {p:Prop}(h:p:=by first|omega|(simp only[Gl,Hk,FC,DC,Tl,Ev];omega)):p:=h
theorem IM {p:Prop}(h:p:=by exact PC hR hsA (hform k hkl) hkl):p:=h
theorem IN {p:Prop}(h:p:=by simpa using hb):p:=h
theorem JV (w:World)(vt:Value)(ipT:Int)(T:Tp)(oT:Sr)(va:Value)(A:List (Sr))(K:Nat)(hT:RN [] (rP T4) w.heap vt ⟨ipT,T,oT⟩)(hA:RN [] (B5 (B5 rI)) w.heap va A)(hqA:BV va)(_hK:K≤1000000000000)(hK:1≤K∧K≤13)(hsA:C7 K A)(hform:∀k,k<T.code.length→DI A.length k (T.code.getD k Az.zero))(hlt:T.code.length≤4000)(hnz:Kd K A T.code T.code.length) :
    Calls Tryz.prog 183 #[vt,va,zI (K:Int)] w (fun e w'=>∃v0:Value,e=.returned (.tuple #[v0,.bool true])∧AF w w'∧RN [] (B5 (B5 rI)) w'.heap v0 (BR K A T.code)∧BV v0):=by
  refine As [vt,va,zI (K:Int)] 118 Tryz.func183 Z Z sM ?_
  have i3:AF w w:=AF.refl w
  have f2:=hA.lenL
  unfold maxLen at f2
  have hS:∀b∈([]:List Nat),b<w.heap.size:=fun b hb=>by cases hb
  refine ZN [0,0] Z<|Ac 2 Z<|ZN [3,0] Z ?_
  obtain⟨BO,hBO⟩:∃b:Nat,b=w.heap.size:=⟨_,rfl⟩
  have hwB:w.heap.size≤BO:=by omega
  refine Cp rV Bv Bs AV Aa fun v1 w1 dn jc dp=>?_
  have dq:=dn.size
  have i4:=i3.trans dn
  obtain⟨kd,F1,ke⟩:=GI.nil (S:=[]) (by rw[← hBO]at dp;exact dp)
  refine Ac 1 Z<|A0<|ZO Z<|A3<|AT (S:=Nat×Value) (fun⟨k,vo⟩=>([(8,vo),(9,zI (k:Int)),(0,vt),(1,va),(2,zI (K:Int))])) (fun⟨k,vo⟩ W=>AF w W∧k≤T.code.length∧w.heap.size≤BO∧BO≤W.heap.size∧NH 27 [] BO W.heap vo (BR K A<|T.code.take k)∧C7 K (BR K A<|T.code.take k)) (fun⟨k,vo⟩=>T.code.length-k) (0,v1) ⟨rfl,rfl,rfl,rfl,rfl,trivial⟩ ⟨i4,oM,oM,oM,(by exact⟨_,_,by assumption⟩),(by intro j hj;simp at hj)⟩ ?_
  clear i3 dp jc dn dq i4
  rintro⟨k,vo⟩ ρ2 w2 ⟨ba,i5,i6,i8,hbld,hR⟩
  have jd:w.heap.size≤w2.heap.size:=ba.size
  have hRl:(BR K A (T.code.take k)).length=k:=by rw[BS,List.length_take];omega
  obtain⟨kf,F3,az⟩:=hbld
  have hFl:∀b∈F3,b<w2.heap.size:=az.lt
  refine A0<|ZN [0,0,0,0,2,0,0] Z<|Ad 2 Z<|AG (hT.isPtr) Z Aa ?_
  obtain⟨cs4,je,dm⟩:=RN.at Dk hT
  obtain⟨f1,vg4,vx4,rfl,i9,bx,ia,ib⟩:=RTp.of je
  replace i9:Bk ipT:=i9
  replace bx:RN [] (Cj 4 Jy) w.heap f1 T.code:=bx
  replace ia:RN [] (Cj 2 Jz) w.heap vg4 T.grd:=ia
  replace ib:RN [] (B5 rI) w.heap vx4 oT:=ib
  refine AD (p:=vt) 1 Cb Z (dm _<|AA.of_ext [] ba) Aa<|Ae (p:=An vt 1) (.inr Z) f1 Dv Z ((dm _<|AA.of_ext [] ba).ld (i:=1) (by simp[DQ,DU])) Aa<|AP (v:=f1) IP Z bx.isSl Aa ?_
  by_cases ic:(k:Int)<(T.code.length:Int)
  ·
    refine AE true Z Z (A5 ic) Aa<|Aj<|Ah Z<|A2<|A0<|A3<|ZN [0,0,0,2,0,0,2,3,4] Z ?_
    have hkl:k<T.code.length:=by omega
    refine Ad 1 Z<|AG (hT.isPtr) Z Aa<|AD (p:=vt) 1 Cb Z (dm _<|AA.of_ext [] ba) Aa<|Ae (p:=An vt 1) (.inr Z) f1 Dv Z ((dm _<|AA.of_ext [] ba).ld (i:=1) (by simp[DQ,DU])) Aa<|Ad 1 Z<|Au (v:=f1) k IP EM Z Z bx.isSl Z sD Aa ?_
    obtain⟨cs6,jf,jg⟩:=bx.get AW Az.zero (k:=k) sD
    obtain⟨rfl,jh⟩:=Hr jf
    refine AJ (p:=Aw f1 k 4) (.inr Z) [zI<|(T.code.getD k Az.zero).op,zI<|(T.code.getD k Az.zero).a,zI<|(T.code.getD k Az.zero).b,zI<|(T.code.getD k Az.zero).num] DE Z (fun fk ji=>jg fk<|AA.of_ext []<|ba.trans ji) Z Aa (Br (z:=.agg #[zI 0,zI 0,zI 0,zI 0]) OS Aa fun w7 bz kg dr=>?_)
    have jj:=bz.size
    have id:=ba.trans bz
    have kh:=az.ext bz
    replace dr:BX w7.heap w2.heap.size [zI 0,zI 0,zI 0,zI 0]:=dr
    refine Ce (vs:=[zI<|(T.code.getD k Az.zero).op,zI<|(T.code.getD k Az.zero).a,zI<|(T.code.getD k Az.zero).b,zI<|(T.code.getD k Az.zero).num]) DE Z Z (by intro u hu;simp only[ze,z2,or_false]at hu;rcases hu with rfl|rfl|rfl|rfl <;> first|exact⟨rfl,rfl⟩) dr Z Z Aa fun w9 ds ki dt=>?_
    replace dt:BX w9.heap w2.heap.size [zI ((T.code.getD k Az.zero).op),zI ((T.code.getD k Az.zero).a),zI ((T.code.getD k Az.zero).b),zI ((T.code.getD k Az.zero).num)]:=dt
    have jk:AF w w9:=ds.below id (fun _ h=>zE h) id.size
    have jl:w7.heap.size≤w9.heap.size:=ds.size
    have du:=az.ext<|ds.below bz (fun _ h=>zE h) bz.size
    refine Aj<|ZN [3,0] Z (Cp (rI) AK Bl BD Aa fun kp f0 b3 jm jn=>?_)
    have ie:=b3.size
    have a3:=jk.trans b3
    have a0:=dt.ext b3
    have a1:=du.ext b3
    refine Ac 1 Z<|A0<|ZN [0,2] Z<|Ak (p:=zP w2.heap.size) 0 GR Z Z Aa<|Ae (p:=An (zP w2.heap.size) 0) (.inr Z) (zI<|(T.code.getD k Az.zero).op) AC Z (a0.ldp (i:=0) sM) Aa<|Aj<|A3<|ZN [0,0] Z ?_
    by_cases c0:(T.code.getD k Az.zero).op=((1:Nat):Int)
    ·
      refine Ap true Z Z (A5 c0) Aa<|Ac 1 Z<|Ah Z<|Ab _ [0,0,2,0,2,0] Z ?_
      have hio:=(hform k hkl).i1 oM
      have hra:=hsA (T.code.getD k Az.zero).num.toNat oM
      have hra1:=hra.1
      refine Ad 1 Z<|Ak (p:=zP w2.heap.size) 3 Cy Z Z Aa<|Ae (p:=An (zP w2.heap.size) 3) (.inr Z) (zI<|(T.code.getD k Az.zero).num) AC Z (a0.ldp (i:=3) sM) Aa<|Au (v:=va) (((T.code.getD k Az.zero).num).toNat) Bs AV Z Z hA.slL oM sD Aa ?_
      obtain⟨c1,dv,c2⟩:=RN.getL (w:=w) g1 [] (k:=((T.code.getD k Az.zero).num).toNat) hA sD
      have c3:=c2.lenL
      unfold maxLen at c3
      refine Ae (p:=Aw va (((T.code.getD k Az.zero).num).toNat) 1) (.inr Z) c1 AZ Z (dv _<|AA.of_ext [] a3) Aa<|Ac 1 Z<|Ab _ [0,0,3,3,4,0] Z<|Ad 2 Z<|Am 83 [] [] [c1] Z Z Lf Aa (BP _ _ _ (c2.ext g1 a3).rd IL) ?_
      rintro kq f4 ⟨bb,rfl,b4,a8⟩
      refine⟨_,rfl,b4,?_⟩
      have ig:=b4.size
      have dw:=a3.trans b4
      have dx:=a1.ext b4
      refine By (u:=bb) (B:=f4.heap.size) Bv Bs AV Z Z (LN f4.heap.size f4.heap.size _<|⟨(Bh a8.isSl).1,(Bh a8.isSl).2⟩) (A7 _) Aa fun fl fm b5 jo dy=>?_
      have ih:=b5.size
      have c4:=dw.trans b5
      have al:=a8.ext (o1) b5
      have c5:=dx.ext b5
      refine CX (v:=vo) (a:=fl) (u:=bb) Bs AV Z Z Z c5 oM dy (RN.of_fr1 al fun b hb=>zH<|hFl b IN) sD IK Aa ?_
      rintro fo fe G19 c6 dz ⟨jp,kr,jq⟩
      have ii:fm.heap.size≤fe.heap.size:=c6.size
      have e0:AF w fe:=c6.below c4 (fun c hc=>A8 hwB (c5.low c (dz c hc))) c4.size
      refine Ac 1 Z<|Ab _ [0,0,0] Z<|Ad 1 Z<|AQ ((k+1:Nat):Int) Z Z (Be oM sD) Aa<|Ac 1 Z ?_
      exact⟨(k+1,fo),_,rfl,zR,⟨e0,oM,oM,oM,IJ,IM⟩,zD⟩
    refine Ap false Z Z (A6 c0) Aa<|Ac 1 Z<|Ai Z<|ZN [0,0] Z ?_
    by_cases c7:(T.code.getD k Az.zero).op=((2:Nat):Int)
    ·
      refine Ap true Z Z (A5 c7) Aa<|Ac 1 Z<|Ah Z<|Ab _ [0,2,0,3,0] Z<|Ak (p:=zP w2.heap.size) 3 Cy Z Z Aa<|Ae (p:=An (zP w2.heap.size) 3) (.inr Z) (zI<|(T.code.getD k Az.zero).num) AC Z (a0.ldp (i:=3) sM) Aa<|Ad 1 Z ?_
      refine Am 203 [] [] [zI<|(T.code.getD k Az.zero).num,zI (K:Int)] Z Z Li Aa (Cf _ _ (K) jh.2.2.2 sD oM) ?_
      rintro ks kt ⟨c8,rfl,b6,bl⟩
      refine⟨_,rfl,b6,?_⟩
      have ij:=b6.size
      have e1:=a3.trans b6
      have e2:=a1.ext b6
      refine Ac 1 Z<|Ab _ [0,0,3,3,4,0] Z<|Ad 2 Z<|Am 83 [] [] [c8] Z Z Lf Aa (BP _ _ _ bl.rd1 IL) ?_
      rintro ku f5 ⟨bc,rfl,b7,a9⟩
      refine⟨_,rfl,b7,?_⟩
      have ik:=b7.size
      have e3:=e1.trans b7
      have e4:=e2.ext b7
      refine By (u:=bc) (B:=f5.heap.size) Bv Bs AV Z Z (LN f5.heap.size f5.heap.size _<|⟨(Bh a9.isSl).1,(Bh a9.isSl).2⟩) (A7 _) Aa fun fp fq b8 jr e5=>?_
      have il:=b8.size
      have c9:=e3.trans b8
      have am:=a9.ext (o1) b8
      have ca:=e4.ext b8
      refine CX (v:=vo) (a:=fp) (u:=bc) Bs AV Z Z Z ca oM e5 (RN.of_fr1 am fun b hb=>zH<|hFl b IN) sD IK Aa ?_
      rintro fr ff G27 cb e6 ⟨js,kv,jt⟩
      have im:fq.heap.size≤ff.heap.size:=cb.size
      have e7:AF w ff:=cb.below c9 (fun c hc=>A8 hwB (ca.low c (e6 c hc))) c9.size
      refine Ac 1 Z<|Ab _ [0,0,0] Z<|Ad 1 Z<|AQ ((k+1:Nat):Int) Z Z (Be oM sD) Aa<|Ac 1 Z ?_
      exact⟨(k+1,fr),_,rfl,zR,⟨e7,oM,oM,oM,IJ,IM⟩,zD⟩
    refine Ap false Z Z (A6 c7) Aa<|Ac 1 Z<|Ai Z<|ZN [0,0] Z ?_
    by_cases cc:(T.code.getD k Az.zero).op=((3:Nat):Int)
    ·
      refine Ap true Z Z (A5 cc) Aa<|Ac 1 Z<|Ah Z<|AO _ [0,0,1,0,1,0,0,1,0,1,3,0] mixed (by kernel_rfl) ?_
      have hio:=(hform k hkl).i2 oM
      have hra:=hR (T.code.getD k Az.zero).a.toNat oM
      have hrb:=hR (T.code.getD k Az.zero).b.toNat oM
      have hra1:=hra.1
      have hrb1:=hrb.1
      refine Ad 1 Z<|Ak (p:=zP w2.heap.size) 1 Bt Z Z Aa<|Ae (p:=An (zP w2.heap.size) 1) (.inl Z) (zI<|(T.code.getD k Az.zero).a) AC Z (a0.ldp (i:=1) sM) Aa<|Au (v:=vo) (((T.code.getD k Az.zero).a).toNat) Bs AV Z Z (a1.done fun b hb=>absurd hb z2).slL oM sD Aa ?_
      obtain⟨cd,e8,bm⟩:=RN.getL (w:=f0) g1 [] (k:=((T.code.getD k Az.zero).a).toNat) (a1.done (fun b hb=>absurd hb z2)) sD
      have ce:=bm.lenL
      unfold maxLen at ce
      refine Ae (p:=Aw vo (((T.code.getD k Az.zero).a).toNat) 1) (.inl Z) cd AZ Z (e8 _ (AA.refl _ _).drew) Aa<|Ad 1 Z<|Ak (p:=zP w2.heap.size) 2 Bu Z Z Aa<|Ae (p:=An (zP w2.heap.size) 2) (.inl Z) (zI<|(T.code.getD k Az.zero).b) AC Z (a0.ldp (i:=2) sM) Aa ?_
      refine Au (v:=vo) (((T.code.getD k Az.zero).b).toNat) Bs AV Z Z (a1.done fun b hb=>absurd hb z2).slL oM sD Aa ?_
      obtain⟨cf,e9,bn⟩:=RN.getL (w:=f0) g1 [] (k:=((T.code.getD k Az.zero).b).toNat) (a1.done (fun b hb=>absurd hb z2)) sD
      have cg:=bn.lenL
      unfold maxLen at cg
      refine Ae (p:=Aw vo (((T.code.getD k Az.zero).b).toNat) 1) (.inl Z) cf AZ Z (e9 _ (AA.refl _ _).drew) Aa<|Am 207 [] [] [cd,cf] Z Z Ic Aa (BW _ _ _ _ _ (bm).rd (bn).rd oM oM) ?_
      rintro kw kx ⟨ch,rfl,a5,aa⟩
      refine⟨_,rfl,a5,?_⟩
      replace a5:=a5.of_drew
      have io:=a5.size
      have ea:=a3.trans a5
      have eb:=a1.ext a5
      have ec:=bm.ext g1 a5
      have ed:=bn.ext g1 a5
      replace aa:=aa.low (B':=f0.heap.size)<|A7 _
      refine Ac 1 Z<|Ab _ [0,0,3,3,4,0] Z<|Ad 2 Z<|Am 83 [] [] [ch] Z Z Lf Aa (BP _ _ _ aa.rd1 IL) ?_
      rintro ky f6 ⟨bd,rfl,an,ab⟩
      refine⟨_,rfl,an,?_⟩
      have ip:=an.size
      have ee:=ea.trans an
      have ef:=eb.ext an
      have eg:=ec.ext g1 an
      have eh:=ed.ext g1 an
      refine By (u:=bd) (B:=f6.heap.size) Bv Bs AV Z Z (LN f6.heap.size f6.heap.size _<|⟨(Bh ab.isSl).1,(Bh ab.isSl).2⟩) (A7 _) Aa fun fs ft ao ju ei=>?_
      have iq:=ao.size
      have ci:=ee.trans ao
      have ap:=ab.ext (o1) ao
      have cj:=ef.ext ao
      have jv:=eg.ext g1 ao
      have jw:=eh.ext g1 ao
      refine CX (v:=vo) (a:=fs) (u:=bd) Bs AV Z Z Z cj oM ei (RN.of_fr1 ap fun b hb=>zH<|hFl b IN) sD IK Aa ?_
      rintro fu fg G43 ck ej ⟨jx,kz,jy⟩
      have ir:ft.heap.size≤fg.heap.size:=ck.size
      have ek:AF w fg:=ck.below ci (fun c hc=>A8 hwB (cj.low c (ej c hc))) ci.size
      refine Ac 1 Z<|Ab _ [0,0,0] Z<|Ad 1 Z<|AQ ((k+1:Nat):Int) Z Z (Be oM sD) Aa<|Ac 1 Z ?_
      exact⟨(k+1,fu),_,rfl,zR,⟨ek,oM,oM,oM,IJ,IM⟩,zD⟩
    refine Ap false Z Z (A6 cc) Aa<|Ac 1 Z<|Ai Z<|ZN [0,0] Z ?_
    by_cases cl:(T.code.getD k Az.zero).op=((4:Nat):Int)
    ·
      refine Ap true Z Z (A5 cl) Aa<|Ac 1 Z<|Ah Z<|AO _ [0,0,1,0,1,0,0,1,0,1,3,0] mixed (by kernel_rfl) ?_
      have hio:=(hform k hkl).i2 oM
      have hra:=hR (T.code.getD k Az.zero).a.toNat oM
      have hrb:=hR (T.code.getD k Az.zero).b.toNat oM
      have hra1:=hra.1
      have hrb1:=hrb.1
      refine Ad 1 Z<|Ak (p:=zP w2.heap.size) 1 Bt Z Z Aa<|Ae (p:=An (zP w2.heap.size) 1) (.inl Z) (zI<|(T.code.getD k Az.zero).a) AC Z (a0.ldp (i:=1) sM) Aa<|Au (v:=vo) (((T.code.getD k Az.zero).a).toNat) Bs AV Z Z (a1.done fun b hb=>absurd hb z2).slL oM sD Aa ?_
      obtain⟨cm,el,bo⟩:=RN.getL (w:=f0) g1 [] (k:=((T.code.getD k Az.zero).a).toNat) (a1.done (fun b hb=>absurd hb z2)) sD
      have cn:=bo.lenL
      unfold maxLen at cn
      refine Ae (p:=Aw vo (((T.code.getD k Az.zero).a).toNat) 1) (.inl Z) cm AZ Z (el _ (AA.refl _ _).drew) Aa<|Ad 1 Z<|Ak (p:=zP w2.heap.size) 2 Bu Z Z Aa<|Ae (p:=An (zP w2.heap.size) 2) (.inl Z) (zI<|(T.code.getD k Az.zero).b) AC Z (a0.ldp (i:=2) sM) Aa ?_
      refine Au (v:=vo) (((T.code.getD k Az.zero).b).toNat) Bs AV Z Z (a1.done fun b hb=>absurd hb z2).slL oM sD Aa ?_
      obtain⟨co,em,bp⟩:=RN.getL (w:=f0) g1 [] (k:=((T.code.getD k Az.zero).b).toNat) (a1.done (fun b hb=>absurd hb z2)) sD
      have cp:=bp.lenL
      unfold maxLen at cp
      refine Ae (p:=Aw vo (((T.code.getD k Az.zero).b).toNat) 1) (.inl Z) co AZ Z (em _ (AA.refl _ _).drew) Aa<|Am 208 [] [] [cm,co] Z Z Oi Aa (DG _ _ _ _ _ (bo).rd (bp).rd oM oM oM) ?_
      rintro l0 l1 ⟨cq,rfl,a6,ac⟩
      refine⟨_,rfl,a6,?_⟩
      replace a6:=a6.of_drew
      have is:=a6.size
      have en:=a3.trans a6
      have eo:=a1.ext a6
      have ep:=bo.ext g1 a6
      have eq:=bp.ext g1 a6
      replace ac:=ac.low (B':=f0.heap.size)<|A7 _
      refine Ac 1 Z<|Ab _ [0,0,3,3,4,0] Z<|Ad 2 Z<|Am 83 [] [] [cq] Z Z Lf Aa (BP _ _ _ ac.rd1 IL) ?_
      rintro l2 f7 ⟨be,rfl,aq,ad⟩
      refine⟨_,rfl,aq,?_⟩
      have it:=aq.size
      have er:=en.trans aq
      have es:=eo.ext aq
      have et:=ep.ext g1 aq
      have eu:=eq.ext g1 aq
      refine By (u:=be) (B:=f7.heap.size) Bv Bs AV Z Z (LN f7.heap.size f7.heap.size _<|⟨(Bh ad.isSl).1,(Bh ad.isSl).2⟩) (A7 _) Aa fun fv fw ar jz ev=>?_
      have iu:=ar.size
      have cr:=er.trans ar
      have au:=ad.ext (o1) ar
      have cs:=es.ext ar
      have k0:=et.ext g1 ar
      have k1:=eu.ext g1 ar
      refine CX (v:=vo) (a:=fv) (u:=be) Bs AV Z Z Z cs oM ev (RN.of_fr1 au fun b hb=>zH<|hFl b IN) sD IK Aa ?_
      rintro fx fh G59 ct ew ⟨k2,l3,k3⟩
      have iv:fw.heap.size≤fh.heap.size:=ct.size
      have ex:AF w fh:=ct.below cr (fun c hc=>A8 hwB (cs.low c (ew c hc))) cr.size
      refine Ac 1 Z<|Ab _ [0,0,0] Z<|Ad 1 Z<|AQ ((k+1:Nat):Int) Z Z (Be oM sD) Aa<|Ac 1 Z ?_
      exact⟨(k+1,fx),_,rfl,zR,⟨ex,oM,oM,oM,IJ,IM⟩,zD⟩
    refine Ap false Z Z (A6 cl) Aa<|Ac 1 Z<|Ai Z<|ZN [0,0] Z ?_
    by_cases cu:(T.code.getD k Az.zero).op=((5:Nat):Int)
    ·
      refine Ap true Z Z (A5 cu) Aa<|Ac 1 Z<|Ah Z<|AO _ [0,0,1,0,1,0,0,1,0,1,3,0] mixed (by kernel_rfl) ?_
      have hio:=(hform k hkl).i2 oM
      have hra:=hR (T.code.getD k Az.zero).a.toNat oM
      have hrb:=hR (T.code.getD k Az.zero).b.toNat oM
      have hra1:=hra.1
      have hrb1:=hrb.1
      refine Ad 1 Z<|Ak (p:=zP w2.heap.size) 1 Bt Z Z Aa<|Ae (p:=An (zP w2.heap.size) 1) (.inl Z) (zI<|(T.code.getD k Az.zero).a) AC Z (a0.ldp (i:=1) sM) Aa<|Au (v:=vo) (((T.code.getD k Az.zero).a).toNat) Bs AV Z Z (a1.done fun b hb=>absurd hb z2).slL oM sD Aa ?_
      obtain⟨cv,ey,bq⟩:=RN.getL (w:=f0) g1 [] (k:=((T.code.getD k Az.zero).a).toNat) (a1.done (fun b hb=>absurd hb z2)) sD
      have cw:=bq.lenL
      unfold maxLen at cw
      refine Ae (p:=Aw vo (((T.code.getD k Az.zero).a).toNat) 1) (.inl Z) cv AZ Z (ey _ (AA.refl _ _).drew) Aa<|Ad 1 Z<|Ak (p:=zP w2.heap.size) 2 Bu Z Z Aa<|Ae (p:=An (zP w2.heap.size) 2) (.inl Z) (zI<|(T.code.getD k Az.zero).b) AC Z (a0.ldp (i:=2) sM) Aa ?_
      refine Au (v:=vo) (((T.code.getD k Az.zero).b).toNat) Bs AV Z Z (a1.done fun b hb=>absurd hb z2).slL oM sD Aa ?_
      obtain⟨cx,ez,br⟩:=RN.getL (w:=f0) g1 [] (k:=((T.code.getD k Az.zero).b).toNat) (a1.done (fun b hb=>absurd hb z2)) sD
      have cy:=br.lenL
      unfold maxLen at cy
      refine Ae (p:=Aw vo (((T.code.getD k Az.zero).b).toNat) 1) (.inl Z) cx AZ Z (ez _ (AA.refl _ _).drew) Aa<|Am 209 [] [] [cv,cx] Z Z Oj Aa (DH _ _ _ _ _ (bq).rd (br).rd oM oM) ?_
      rintro l4 l5 ⟨cz,rfl,a7,ae⟩
      refine⟨_,rfl,a7,?_⟩
      replace a7:=a7.of_drew
      have iw:=a7.size
      have g0:=a3.trans a7
      have g2:=a1.ext a7
      have g3:=bq.ext g1 a7
      have g4:=br.ext g1 a7
      replace ae:=ae.low (B':=f0.heap.size)<|A7 _
      refine Ac 1 Z<|Ab _ [0,0,3,3,4,0] Z<|Ad 2 Z<|Am 83 [] [] [cz] Z Z Lf Aa (BP _ _ _ ae.rd1 IL) ?_
      rintro l6 f8 ⟨bf,rfl,av,af⟩
      refine⟨_,rfl,av,?_⟩
      have ix:=av.size
      have g5:=g0.trans av
      have g6:=g2.ext av
      have g7:=g3.ext g1 av
      have g8:=g4.ext g1 av
      refine By (u:=bf) (B:=f8.heap.size) Bv Bs AV Z Z (LN f8.heap.size f8.heap.size _<|⟨(Bh af.isSl).1,(Bh af.isSl).2⟩) (A7 _) Aa fun fy fz aw k4 g9=>?_
      have iy:=aw.size
      have d0:=g5.trans aw
      have ax:=af.ext (o1) aw
      have d1:=g6.ext aw
      have k5:=g7.ext g1 aw
      have k6:=g8.ext g1 aw
      refine CX (v:=vo) (a:=fy) (u:=bf) Bs AV Z Z Z d1 oM g9 (RN.of_fr1 ax fun b hb=>zH<|hFl b IN) sD IK Aa ?_
      rintro kk fi G75 d2 ga ⟨k7,l7,k8⟩
      have iz:fz.heap.size≤fi.heap.size:=d2.size
      have gb:AF w fi:=d2.below d0 (fun c hc=>A8 hwB (d1.low c (ga c hc))) d0.size
      refine Ac 1 Z<|Ab _ [0,0,0] Z<|Ad 1 Z<|AQ ((k+1:Nat):Int) Z Z (Be oM sD) Aa<|Ac 1 Z ?_
      exact⟨(k+1,kk),_,rfl,zR,⟨gb,oM,oM,oM,IJ,IM⟩,zD⟩
    refine Ap false Z Z (A6 cu) Aa<|Ac 1 Z<|Ai Z<|ZN [0,0] Z ?_
    by_cases d3:(T.code.getD k Az.zero).op=((7:Nat):Int)
    ·
      refine Ap true Z Z (A5 d3) Aa<|Ac 1 Z<|Ah Z<|Ab _ [0,0,2,0,2,3,0] Z ?_
      have hio:=(hform k hkl).i7 oM
      have hra:=hR (T.code.getD k Az.zero).a.toNat oM
      have hra1:=hra.1
      refine Ad 1 Z<|Ak (p:=zP w2.heap.size) 1 Bt Z Z Aa<|Ae (p:=An (zP w2.heap.size) 1) (.inr Z) (zI<|(T.code.getD k Az.zero).a) AC Z (a0.ldp (i:=1) sM) Aa<|Au (v:=vo) (((T.code.getD k Az.zero).a).toNat) Bs AV Z Z (a1.done fun b hb=>absurd hb z2).slL oM sD Aa ?_
      obtain⟨d4,gc,bs⟩:=RN.getL (w:=f0) g1 [] (k:=((T.code.getD k Az.zero).a).toNat) (a1.done (fun b hb=>absurd hb z2)) sD
      have d5:=bs.lenL
      unfold maxLen at d5
      refine Ae (p:=Aw vo (((T.code.getD k Az.zero).a).toNat) 1) (.inr Z) d4 AZ Z (gc _<|AA.refl _ _) Aa<|Am 204 [] [] [d4,zI ((1000002:Nat):Int)] Z Z Sm Aa (EU _ _ _ _ (bs).rd oM oM) ?_
      rintro l8 l9 ⟨d6,rfl,b0,bt⟩
      refine⟨_,rfl,b0,?_⟩
      have j0:=b0.size
      have gd:=a3.trans b0
      have ge:=a1.ext b0
      have gf:=bs.ext g1 b0
      refine Ac 1 Z<|Ab _ [0,0,3,3,4,0] Z<|Ad 2 Z<|Am 83 [] [] [d6] Z Z Lf Aa (BP _ _ _ bt.rd1 IL) ?_
      rintro la f9 ⟨bg,rfl,b1,ag⟩
      refine⟨_,rfl,b1,?_⟩
      have j1:=b1.size
      have gg:=gd.trans b1
      have gh:=ge.ext b1
      have gi:=gf.ext g1 b1
      refine By (u:=bg) (B:=f9.heap.size) Bv Bs AV Z Z (LN f9.heap.size f9.heap.size _<|⟨(Bh ag.isSl).1,(Bh ag.isSl).2⟩) (A7 _) Aa fun kl km b2 k9 gj=>?_
      have j2:=b2.size
      have d7:=gg.trans b2
      have ay:=ag.ext (o1) b2
      have d8:=gh.ext b2
      have ka:=gi.ext g1 b2
      refine CX (v:=vo) (a:=kl) (u:=bg) Bs AV Z Z Z d8 oM gj (RN.of_fr1 ay fun b hb=>zH<|hFl b IN) sD IK Aa ?_
      rintro kn fj G87 d9 gk ⟨kb,lb,kc⟩
      have j3:km.heap.size≤fj.heap.size:=d9.size
      have gl:AF w fj:=d9.below d7 (fun c hc=>A8 hwB (d8.low c (gk c hc))) d7.size
      refine Ac 1 Z<|Ab _ [0,0,0] Z<|Ad 1 Z<|AQ ((k+1:Nat):Int) Z Z (Be oM sD) Aa<|Ac 1 Z ?_
      exact⟨(k+1,kn),_,rfl,zR,⟨gl,oM,oM,oM,IJ,IM⟩,zD⟩
    refine Ap false Z Z (A6 d3) Aa<|Ac 1 Z<|Ai Z<|A0<|ZN [0,0,2,0,2,0,2,0] Z ?_
    have kj:=(hform k hkl).i0
    have hio:=(hform k hkl).i2 oM
    have hra:=hR (T.code.getD k Az.zero).a.toNat oM
    have hrb:=hR (T.code.getD k Az.zero).b.toNat oM
    have hra1:=hra.1
    have hrb1:=hrb.1
    refine Ad 1 Z<|Ak (p:=zP w2.heap.size) 2 Bu Z Z Aa<|Ae (p:=An (zP w2.heap.size) 2) (.inr Z) (zI<|(T.code.getD k Az.zero).b) AC Z (a0.ldp (i:=2) sM) Aa<|Au (v:=vo) (((T.code.getD k Az.zero).b).toNat) Bs AV Z Z (a1.done fun b hb=>absurd hb z2).slL oM sD Aa ?_
    obtain⟨bu,gm,b9⟩:=RN.getL (w:=f0) g1 [] (k:=((T.code.getD k Az.zero).b).toNat) (a1.done (fun b hb=>absurd hb z2)) sD
    have da:=b9.lenL
    unfold maxLen at da
    refine Ae (p:=Aw vo (((T.code.getD k Az.zero).b).toNat) 1) (.inr Z) bu AZ Z (gm _<|AA.refl _ _) Aa<|Au (v:=bu) 0 Bl BD Z Z b9.slL Z sD Aa ?_
    have gn:=RN.getI (w:=f0) (k:=0) b9 sD
    refine Ae (p:=Aw bu 0 1) (.inr Z) (zI<|((BR K A<|T.code.take k).getD (((T.code.getD k Az.zero).b).toNat) []).getD 0 0) AC Z (gn.1 _<|AA.refl _ _) Aa ?_
    have go:¬(((BR K A (T.code.take k)).getD (((T.code.getD k Az.zero).b).toNat) []).getD 0 0=((0:Nat):Int)):=(hnz k oM oM)
    refine Ap false Z Z (A6 go) Aa<|Aj<|Ai Z<|A2<|AO _ [0,0,1,0,1,0,0,1,0,1,3,0] mixed (by kernel_rfl)<|Ad 1 Z<|Ak (p:=zP w2.heap.size) 1 Bt Z Z Aa<|Ae (p:=An (zP w2.heap.size) 1) (.inl Z) (zI<|(T.code.getD k Az.zero).a) AC Z (a0.ldp (i:=1) sM) Aa ?_
    refine Au (v:=vo) (((T.code.getD k Az.zero).a).toNat) Bs AV Z Z (a1.done fun b hb=>absurd hb z2).slL oM sD Aa ?_
    obtain⟨db,gp,bv⟩:=RN.getL (w:=f0) g1 [] (k:=((T.code.getD k Az.zero).a).toNat) (a1.done (fun b hb=>absurd hb z2)) sD
    have dc:=bv.lenL
    unfold maxLen at dc
    refine Ae (p:=Aw vo (((T.code.getD k Az.zero).a).toNat) 1) (.inl Z) db AZ Z (gp _ (AA.refl _ _).drew) Aa<|Ad 1 Z<|Ak (p:=zP w2.heap.size) 2 Bu Z Z Aa<|Ae (p:=An (zP w2.heap.size) 2) (.inl Z) (zI<|(T.code.getD k Az.zero).b) AC Z (a0.ldp (i:=2) sM) Aa ?_
    refine Au (v:=vo) (((T.code.getD k Az.zero).b).toNat) Bs AV Z Z (a1.done fun b hb=>absurd hb z2).slL oM sD Aa ?_
    obtain⟨dd,gq,bw⟩:=RN.getL (w:=f0) g1 [] (k:=((T.code.getD k Az.zero).b).toNat) (a1.done (fun b hb=>absurd hb z2)) sD
    have de:=bw.lenL
    unfold maxLen at de
    refine Ae (p:=Aw vo (((T.code.getD k Az.zero).b).toNat) 1) (.inl Z) dd AZ Z (gq _ (AA.refl _ _).drew) Aa<|Am 210 [] [] [db,dd] Z Z Sn Aa (Ge _ _ _ _ _ (bv).rd (bw).rd oM oM oM hra.2) ?_
    rintro lc lf ⟨df,rfl,a4,ah⟩
    refine⟨_,rfl,a4,?_⟩
    replace a4:=a4.of_drew
    have j4:=a4.size
    have gr:=a3.trans a4
    have gs:=a1.ext a4
    have gt:=b9.ext g1 a4
    have gu:=bv.ext g1 a4
    have gv:=bw.ext g1 a4
    replace ah:=ah.low (B':=f0.heap.size)<|A7 _
    refine Ac 1 Z<|Ab _ [0,0,3,3,4,0] Z<|Ad 2 Z<|Am 83 [] [] [df] Z Z Lf Aa (BP _ _ _ ah.rd1 IL) ?_
    rintro lg fa ⟨bh,rfl,ai,aj⟩
    refine⟨_,rfl,ai,?_⟩
    have j5:=ai.size
    have gw:=gr.trans ai
    have gx:=gs.ext ai
    have dg:=gt.ext g1 ai
    have dh:=gu.ext g1 ai
    have di:=gv.ext g1 ai
    refine By (u:=bh) (B:=fa.heap.size) Bv Bs AV Z Z (LN fa.heap.size fa.heap.size _<|⟨(Bh aj.isSl).1,(Bh aj.isSl).2⟩) (A7 _) Aa fun fb fc a2 j6 dj=>?_
    have gy:=a2.size
    have bi:=gw.trans a2
    have ak:=aj.ext (o1) a2
    have bj:=gx.ext a2
    have j7:=dg.ext g1 a2
    have j8:=dh.ext g1 a2
    have j9:=di.ext g1 a2
    refine CX (v:=vo) (a:=fb) (u:=bh) Bs AV Z Z Z bj oM dj (RN.of_fr1 ak fun b hb=>zH<|hFl b IN) sD IK Aa ?_
    rintro fd f3 G108 bk dk ⟨ja,ko,jb⟩
    have gz:fc.heap.size≤f3.heap.size:=bk.size
    have dl:AF w f3:=bk.below bi (fun c hc=>A8 hwB (bj.low c (dk c hc))) bi.size
    refine Ac 1 Z<|Ab _ [0,0,0] Z<|Ad 1 Z<|AQ ((k+1:Nat):Int) Z Z (Be oM sD) Aa<|Ac 1 Z ?_
    exact⟨(k+1,fd),_,rfl,zR,⟨dl,oM,oM,oM,IJ,IM⟩,zD⟩
  exact AE false Z Z (A6 ic) Aa<|Aj<|Ai Z<|A4<|Ay<|Ay<|At<|ZN [0,0,0] Z<|Ac 3 Z<|A1<|Af [6,7] Z (.tuple #[vo,.bool true]) Z ⟨_,rfl,ba,(by have h9:=az.done (fun b hb=>absurd hb z2);rwa [za oM]at h9),az.cap⟩
theorem JW {p:Prop}(h:p:=by first|(rw[show(kk-1+1).toNat=kk.toNat from by omega];exact D4 hadj oM (Mw oM))|(rw[show(kk-1+1).toNat=kk.toNat from by omega];exact D4 hadj oM (S3 oM (Nat.le_of_eq (hrb1.trans hro1.symm))))|(rw[show(kk-1+1).toNat=kk.toNat from by omega];exact D4 hadj oM (Mx oM))|(rw[show(kk-1+1).toNat=kk.toNat from by omega];exact D4 hadj oM (S5 oM Z Z Z (Nat.le_of_eq (hrb1.trans hpz.symm))))|(rw[show(kk-1+1).toNat=kk.toNat from by omega];exact D4 hadj oM (Sa oM (Nat.le_of_eq (hra1.trans hro1.symm))))|(rw[show(kk-1+1).toNat=kk.toNat from by omega];exact D4 hadj oM (PF oM))):p:=h
theorem JX {p:Prop}(h:p:=by first|(have h9:=E5 (R:=R) hxs oM (hform _ hkn);rw[Mw oM]at h9;exact h9)|(have h9:=E5 (R:=R) hxs oM (hform _ hkn);rw[S3 oM (Nat.le_of_eq (hrb1.trans hro1.symm))]at h9;exact h9)|(have h9:=E5 (R:=R) hxs oM (hform _ hkn);rw[Mx oM]at h9;exact h9)|(have h9:=E5 (R:=R) hxs oM (hform _ hkn);rw[S5 oM Z Z Z (Nat.le_of_eq (hrb1.trans hpz.symm))]at h9;exact h9)|(have h9:=E5 (R:=R) hxs oM (hform _ hkn);rw[Sa oM (Nat.le_of_eq (hra1.trans hro1.symm))]at h9;exact h9)|exact hxs):p:=h
theorem C0 {p:Prop}(h:p:=by first|omega|(simp only[Hj,FC,DC,Gl,Hk];omega)):p:=h
theorem JY {p:Prop}(h:p:=by first|exact hxl|(simp only[z6];exact hxl)):p:=h
theorem Gf {p:Prop}(h:p:=by kernel_rfl):p:=h
theorem Kl (w:World)(ni:Nat)(S:List Nat)(vt:Value)(ipT:Int)(T:Tp)(oT:Sr)(vr:Value)(R:List (Sr))(vw:Value)(ws:Sr)(K:Nat)(c0:∀b∈S,b<w.heap.size)(hT:RN [] (rP T4) w.heap vt ⟨ipT,T,oT⟩)(hR:RN [] (B5 (B5 rI)) w.heap vr R)(hqR:BV vr)(hws:Rd (B5 rI) w.heap vw ws)(_hK:K≤1000000000000)(hK:1≤K∧K≤13)(hsR:C7 K R)(hlR:R.length=T.code.length)(hlt:T.code.length≤4000)(hlo:oT.length≤ws.length∧ws.length≤1000000)(ho:∀k,k<oT.length→0≤oT.getD k 0∧oT.getD k 0<(T.code.length:Int))(hnw:B9 ws=true)(hform:∀k,k<T.code.length→DI ni k (T.code.getD k Az.zero)) :
    Calls Tryz.prog 185 #[vt,vr,vw,zI (K:Int)] w (fun e w'=>∃v0:Value,e=.returned v0∧AF w w'∧RN S (B5 (B5 rI)) w'.heap v0 (I2 T.code R oT ws)∧BV v0):=by
  refine As [vt,vr,vw,zI (K:Int)] 223 Tryz.func185 Z Z sM ?_
  have kr:AF w w:=AF.refl w
  have f5:=hR.lenL
  unfold maxLen at f5
  have fh:=hws.lenle
  refine ZO Z<|ZN [3,0] Z (Cp (Bo rI 2) o1 Bs AV Aa fun v1 w1 j1 me ks=>?_)
  have j2:=j1.size
  have kt:=kr.trans j1
  refine Ac 1 Z<|A0<|ZO Z<|A3<|AT (S:=Nat×Value) (fun⟨k,vo⟩=>([(9,vo),(10,zI (k:Int)),(0,vt),(1,vr),(2,vw),(3,zI (K:Int))])) (fun⟨k,vo⟩ W=>AF w W∧Fr (Bo (Bo rI 2) 27) w.heap.size W.heap.size W.heap vo (List.replicate k<|HQ K 0)∧k≤T.code.length) (fun⟨k,vo⟩=>T.code.length-k) (0,v1) ⟨rfl,rfl,rfl,rfl,rfl,rfl,trivial⟩ ⟨kt,ks.up o2,oM⟩ ?_
  clear kr ks me j1 j2 kt
  rintro⟨k,vo⟩ ρ2 w2 ⟨dz,c2,ku⟩
  have j3:w.heap.size≤w2.heap.size:=dz.size
  refine A0<|ZN [0,0,0,0,2,0,0] Z<|Ad 2 Z<|AG (hT.isPtr) Z Aa ?_
  obtain⟨cs3,mf,c1⟩:=RN.at Dk hT
  obtain⟨f1,vg3,vx3,rfl,kv,es,kw,e0⟩:=RTp.of mf
  replace kv:Bk ipT:=kv
  replace es:RN [] (Cj 4 Jy) w.heap f1 T.code:=es
  replace kw:RN [] (Cj 2 Jz) w.heap vg3 T.grd:=kw
  replace e0:RN [] (B5 rI) w.heap vx3 oT:=e0
  refine AD (p:=vt) 1 Cb Z (c1 _<|AA.of_ext [] dz) Aa<|Ae (p:=An vt 1) (.inr Z) f1 Dv Z ((c1 _<|AA.of_ext [] dz).ld (i:=1) (by simp[DQ,DU])) Aa<|AP (v:=f1) IP Z es.isSl Aa ?_
  by_cases kx:(k:Int)<(T.code.length:Int)
  ·
    refine AE true Z Z (A5 kx) Aa<|Aj<|Ah Z<|A2<|A0<|A3<|Ab _ [0,0,3,3,4,0] Z<|Ad 2 Z<|Am 203 [] [] [zI ((0:Nat):Int),zI (K:Int)] Z Z Li Aa (Cf _ _ (K) oM sD oM) ?_
    rintro e5 w5 ⟨j4,rfl,iy,et⟩
    refine⟨_,rfl,iy,?_⟩
    have mg:=iy.size
    have mh:=dz.trans iy
    have co:=c2.ext (o2) iy
    refine By (u:=j4) (B:=w2.heap.size) o1 Bs AV Z Z et (by first|exact A7 _|omega) Aa fun v6 w6 j5 nd mi=>?_
    have mj:=j5.size
    have j6:=mh.trans j5
    have cp:=co.ext (o2) j5
    refine GF o1 (v:=vo) (a:=v6) Bs AV Z Z Z cp j6.size mi oM dz.size sD (by unfold maxLen;first|omega|assumption|(simp only[zb,z9,z4,z6,z5];omega)|(simp[zb,z9,z4,z6,z5];done)|(simp[zb,z9,z4,z6,z5];omega)) Aa fun v7 w7 F7 ky mk ml=>?_
    have mm:AF w w7:=ky.below j6 (fun c hc=>A8 (A7 _) (mk c hc).1) j6.size
    have mn:w6.heap.size≤w7.heap.size:=ky.size
    exact Ac 1 Z<|Ab _ [0,0,0] Z<|Ad 1 Z<|AQ ((k+1:Nat):Int) Z Z (Be oM sD) Aa<|Ac 1 Z ⟨(k+1,v7),_,rfl,zR,⟨mm,(by have h:=ml.up o2;rw[show HQ K ((0:Nat):Int)=HQ K 0 from rfl,← List.replicate_succ']at h;exact h),oM⟩,zD⟩
  refine AE false Z Z (A6 kx) Aa<|Aj<|Ai Z<|A4<|Ay<|Ay<|At<|A0<|ZN [0] Z ?_
  have hOw:=c2
  rw[show k=T.code.length from by omega,Xw hsR hlR]at hOw
  obtain⟨mo,F0,j7,mp⟩:=GI.ofFr (S:=S) hOw (fun b hb=>zH<|c0 b hb)
  obtain⟨BO,hBO⟩:∃b:Nat,b=w.heap.size:=⟨_,rfl⟩
  rw[← hBO]at j7
  have hwB:w.heap.size≤BO:=by omega
  have hSB:∀b∈S,b<BO:=fun b hb=>zH<|c0 b hb
  obtain⟨B0,iz⟩:∃l:List Sr,l=K8 R:=⟨_,rfl⟩
  rw[← iz]at j7
  have j8:C7 K B0:=by rw[iz];exact HV hsR
  have kz:B0.length=T.code.length:=by rw[iz,Dq];exact hlR
  refine Ac 1 Z<|A3<|AT (S:=Nat×List Value) (fun⟨i,us⟩=>([(11,zI (i:Int)),(0,vt),(1,vr),(2,vw),(3,zI (K:Int)),(9,vo)])) (fun⟨i,us⟩ W=>AF w W∧i≤oT.length∧GI 27 S BO W.heap vo (LT oT ws i B0) us F0) (fun⟨i,us⟩=>oT.length-i) (0,mo) ⟨rfl,rfl,rfl,rfl,rfl,rfl,trivial⟩ ⟨dz,oM,j7⟩ ?_
  clear c2 dz j3 mp
  rintro⟨i,us⟩ ρ8 w8 ⟨b6,l0,hbw⟩
  have j9:w.heap.size≤w8.heap.size:=b6.size
  have hFl:∀b∈F0,b<w8.heap.size:=hbw.lt
  refine A0<|ZN [0,0,0,0,2,0,0] Z<|Ad 2 Z<|AG (hT.isPtr) Z Aa<|AD (p:=vt) 3 Em Z (c1 _<|AA.of_ext [] b6) Aa<|Ae (p:=An vt 3) (.inr Z) vx3 AZ Z ((c1 _<|AA.of_ext [] b6).ld (i:=3) (by simp[DQ,DU])) Aa<|AP (v:=vx3) Bl Z e0.slL Aa ?_
  by_cases l1:(i:Int)<(oT.length:Int)
  ·
    refine AE true Z Z (A5 l1) Aa<|Aj<|Ah Z<|A2<|A0<|A3<|AO _ [0,0,0,0,1,0,0,1,0,0,0,0,1,0,0,1,0,1,0,0,0,1,0,3,3,0,4] mixed Gf ?_
    have hoi:=ho i oM
    have hrw:=GO (ws:=ws) j8 (fun q hq=>zH<|ho q hq) i oM (oT.getD i 0).toNat (by rw[DJ];omega)
    have mq:=hrw.1
    have hwl:(LT oT ws i B0).length=T.code.length:=by rw[DJ];exact kz
    refine Ad 2 Z<|AG (hT.isPtr) Z Aa<|AD (p:=vt) 3 Em Z (c1 _<|AA.of_ext [] b6.drew) Aa<|Ae (p:=An vt 3) (.inl Z) vx3 AZ Z ((c1 _<|AA.of_ext [] b6.drew).ld (i:=3) (by simp[DQ,DU])) Aa<|Ad 1 Z<|Au (v:=vx3) i Bl BD Z Z e0.slL Z sD Aa ?_
    have ja:=RN.getI (w:=w) (k:=i) e0 sD
    refine Ae (p:=Aw vx3 i 1) (.inl Z) (zI<|oT.getD i 0) AC Z (ja.1 _<|AA.of_ext [] b6.drew) Aa<|Ad 2 Z<|AG (hT.isPtr) Z Aa<|AD (p:=vt) 3 Em Z (c1 _<|AA.of_ext [] b6.drew) Aa<|Ae (p:=An vt 3) (.inl Z) vx3 AZ Z ((c1 _<|AA.of_ext [] b6.drew).ld (i:=3) (by simp[DQ,DU])) Aa<|Ad 1 Z<|Au (v:=vx3) i Bl BD Z Z e0.slL Z sD Aa ?_
    have jb:=RN.getI (w:=w) (k:=i) e0 sD
    refine Ae (p:=Aw vx3 i 1) (.inl Z) (zI<|oT.getD i 0) AC Z (jb.1 _<|AA.of_ext [] b6.drew) Aa<|Au (v:=vo) ((oT.getD i 0).toNat) Bs AV Z Z (hbw.done hSB).none.slL oM sD Aa ?_
    obtain⟨eu,jc,ev⟩:=hbw.getF (k:=(oT.getD i 0).toNat) sD
    have ew:=ev.lenL
    unfold maxLen at ew
    refine Ae (p:=Aw vo ((oT.getD i 0).toNat) 1) (.inl Z) eu AZ Z jc Aa<|Ad 2 Z<|Au (v:=vw) i Bl BD Z Z hws.isSl Z sD Aa ?_
    refine Ae (p:=Aw vw i 1) (.inl Z) (zI<|ws.getD i 0) AC Z (Bc b6.drew (hws.getI sD).1) Aa<|Ad 1 Z ?_
    refine Am 203 [] [] [zI<|ws.getD i 0,zI (K:Int)] Z Z Li Aa (Cf _ _ (K) (hws.getI sD).2 sD oM) ?_
    rintro nl nm ⟨ex,rfl,b7,aq⟩
    refine⟨_,rfl,b7,?_⟩
    replace b7:=b7.of_drew
    have l2:=b7.size
    have jd:=b6.trans b7
    have je:=hbw.ext b7
    have ey:=ev.ext g1 b7
    replace aq:=aq.low (B':=w8.heap.size)<|A7 _
    refine Am 207 [] [] [eu,ex] Z Z Ic Aa (BW _ _ _ _ _ ey.rd aq.rd1 oM (by rw[Ev];omega)) ?_
    rintro nn fi ⟨d0,rfl,bi,c3⟩
    refine⟨_,rfl,bi,?_⟩
    have l3:=bi.size
    have ez:=jd.trans bi
    have bj:=aq.ext (o1) bi
    have e1:=je.ext bi
    have jf:=ey.ext g1 bi
    refine Au (v:=vo) ((oT.getD i 0).toNat) Bs AV Z Z (e1.done hSB).none.slL oM sD Aa ?_
    refine ES (v:=vo) (u:=d0) (w:=fi) H8 Z Z e1 (RN.of_fr1 c3 fun b hb=>by rcases zi.1 hb with hb|hb;(have:=c0 b hb;omega);(have:=hFl b hb;omega)) sD Aa fun fj c4 mr jg=>?_
    have l4:fi.heap.size≤fj.heap.size:=c4.size
    have jh:AF w fj:=c4.below ez (fun c hc=>A8 hwB (e1.low c hc)) ez.size
    have ms:=jf.chg g1<|c4.sub fun b hb=>z1 _ hb
    have mt:=bj.chg (o1) c4 fun c hc=>zH<|hFl c hc
    have mu:=c3.chg (o1) c4 fun c hc=>zH<|hFl c hc
    refine Aj<|Ab _ [0,0,0] Z<|Ad 1 Z<|AQ ((i+1:Nat):Int) Z Z (Be oM sD) Aa<|Ac 1 Z ?_
    have hbe:=jg
    exact⟨(i+1,us.set ((oT.getD i 0).toNat) d0),_,rfl,zR,⟨jh,oM,(by rw[Xv (GO j8 (fun q hq=>zH<|ho q hq) i oM) oM];exact hbe)⟩,zD⟩
  refine AE false Z Z (A6 l1) Aa<|Aj<|Ai Z<|A4<|Ay<|Ay<|At<|A0<|ZN [0,0,0,2,0,0,0] Z ?_
  obtain⟨B1,j0⟩:∃l:List Sr,l=LT oT ws oT.length B0:=⟨_,rfl⟩
  have l5:=hbw
  rw[show i=oT.length from by omega,← j0]at l5
  have mv:C7 K B1:=by rw[j0];exact GO j8 (fun q hq=>zH<|ho q hq) _ (A7 _)
  have mw:B1.length=T.code.length:=by rw[j0,DJ];exact kz
  refine Ad 1 Z<|AG (hT.isPtr) Z Aa<|AD (p:=vt) 1 Cb Z (c1 _<|AA.of_ext [] b6) Aa<|Ae (p:=An vt 1) (.inr Z) f1 Dv Z ((c1 _<|AA.of_ext [] b6).ld (i:=1) (by simp[DQ,DU])) Aa<|AP (v:=f1) IP Z es.isSl Aa<|Bi ((T.code.length:Int)-1) Z Z (CT oM oM) Aa<|Ac 1 Z<|A3 ?_
  refine AT (S:=Int×List Sr×List Value) (fun⟨kk,xs,us⟩=>([(12,zI kk),(0,vt),(1,vr),(9,vo)])) (fun⟨kk,xs,us⟩ W=>AF w W∧(-1≤kk∧kk<(T.code.length:Int))∧GI 27 S BO W.heap vo xs us F0∧C7 K xs∧xs.length=T.code.length∧Qv T.code R (kk+1).toNat xs=Qv T.code R T.code.length B1) (fun⟨kk,xs,us⟩=>(kk+1).toNat) ((T.code.length:Int)-1,B1,us) ⟨rfl,rfl,rfl,rfl,trivial⟩ ⟨b6,oM,l5,mv,mw,(by rw[show((T.code.length:Int)-1+1).toNat=T.code.length from by omega])⟩ ?_
  clear b6 j9
  rintro⟨kk,xs,us⟩ ρ29 f0 ⟨bk,ji,hbl,hxs,hxl,hadj⟩
  have l6:w.heap.size≤f0.heap.size:=bk.size
  have jj:∀b∈F0,b<f0.heap.size:=hbl.lt
  have hFl:=jj
  refine A0<|ZN [0,0] Z<|Ad 1 Z ?_
  by_cases g0:((0:Nat):Int)≤kk
  ·
    refine CU true Z Z (A5 g0) Aa<|Aj<|Ah Z<|A2<|A0<|A3<|ZN [0,0,0,2,0,0,2,3,4] Z<|Ad 1 Z<|AG (hT.isPtr) Z Aa<|AD (p:=vt) 1 Cb Z (c1 _<|AA.of_ext [] bk) Aa<|Ae (p:=An vt 1) (.inr Z) f1 Dv Z ((c1 _<|AA.of_ext [] bk).ld (i:=1) (by simp[DQ,DU])) Aa<|Ad 1 Z ?_
    refine Au (v:=f1) ((kk).toNat) IP EM Z Z es.isSl oM sD Aa ?_
    obtain⟨cs31,jk,jl⟩:=es.get AW Az.zero (k:=(kk).toNat) sD
    obtain⟨rfl,mx⟩:=Hr jk
    refine AJ (p:=Aw f1 ((kk).toNat) 4) (.inr Z) [zI<|(T.code.getD ((kk).toNat) Az.zero).op,zI<|(T.code.getD ((kk).toNat) Az.zero).a,zI<|(T.code.getD ((kk).toNat) Az.zero).b,zI<|(T.code.getD ((kk).toNat) Az.zero).num] DE Z (fun fs my=>jl fs<|AA.of_ext []<|bk.trans my) Z Aa (Br (z:=.agg #[zI 0,zI 0,zI 0,zI 0]) OS Aa fun fk c5 mz e2=>?_)
    have l7:=c5.size
    have g2:=bk.trans c5
    have n0:=hbl.ext c5
    replace e2:BX fk.heap f0.heap.size [zI 0,zI 0,zI 0,zI 0]:=e2
    refine Ce (vs:=[zI<|(T.code.getD ((kk).toNat) Az.zero).op,zI<|(T.code.getD ((kk).toNat) Az.zero).a,zI<|(T.code.getD ((kk).toNat) Az.zero).b,zI<|(T.code.getD ((kk).toNat) Az.zero).num]) DE Z Z (by intro u hu;simp only[ze,z2,or_false]at hu;rcases hu with rfl|rfl|rfl|rfl <;> first|exact⟨rfl,rfl⟩) e2 Z Z Aa fun f2 e3 n1 a2=>?_
    replace a2:BX f2.heap f0.heap.size [zI ((T.code.getD ((kk).toNat) Az.zero).op),zI ((T.code.getD ((kk).toNat) Az.zero).a),zI ((T.code.getD ((kk).toNat) Az.zero).b),zI ((T.code.getD ((kk).toNat) Az.zero).num)]:=a2
    have an:AF w f2:=e3.below g2 (fun _ h=>zE h) g2.size
    have l8:fk.heap.size≤f2.heap.size:=e3.size
    have a5:=hbl.ext<|e3.below c5 (fun _ h=>zE h) c5.size
    refine Aj<|ZN [0,0,0,2,0] Z ?_
    have hkn:kk.toNat<T.code.length:=by omega
    have hro:=hxs kk.toNat oM
    have hro1:=hro.1
    have hRk:=hsR kk.toNat oM
    have n2:=hRk.1
    refine Ad 2 Z<|Au (v:=vo) ((kk).toNat) Bs AV Z Z (a5.done hSB).none.slL oM sD Aa ?_
    obtain⟨ar,jm,ah⟩:=a5.getF (k:=(kk).toNat) sD
    have g3:=ah.lenL
    unfold maxLen at g3
    refine Ae (p:=Aw vo ((kk).toNat) 1) (.inr Z) ar AZ Z jm Aa<|Ac 1 Z<|ZN [0,2] Z<|Ak (p:=zP f0.heap.size) 0 GR Z Z Aa<|Ae (p:=An (zP f0.heap.size) 0) (.inr Z) (zI<|(T.code.getD ((kk).toNat) Az.zero).op) AC Z (a2.ldp (i:=0) sM) Aa<|Aj<|A3<|ZN [0,0] Z ?_
    by_cases g4:(T.code.getD ((kk).toNat) Az.zero).op=((3:Nat):Int)
    ·
      refine Ap true Z Z (A5 g4) Aa<|Ac 1 Z<|Ah Z<|A0<|AO _ [0,0,1,0,0,1,0,1,0,3,0,4] mixed Gf ?_
      have hio:=(hform kk.toNat hkn).i2 oM
      have hra:=hxs (T.code.getD kk.toNat Az.zero).a.toNat oM
      have hra1:=hra.1
      have hRa:=hsR (T.code.getD kk.toNat Az.zero).a.toNat oM
      have hRb:=hsR (T.code.getD kk.toNat Az.zero).b.toNat oM
      have e4:=hRa.1
      have e6:=hRb.1
      refine Ad 1 Z<|Ak (p:=zP f0.heap.size) 1 Bt Z Z Aa<|Ae (p:=An (zP f0.heap.size) 1) (.inl Z) (zI<|(T.code.getD ((kk).toNat) Az.zero).a) AC Z (a2.ldp (i:=1) sM) Aa<|Ad 1 Z<|Ak (p:=zP f0.heap.size) 1 Bt Z Z Aa<|Ae (p:=An (zP f0.heap.size) 1) (.inl Z) (zI<|(T.code.getD ((kk).toNat) Az.zero).a) AC Z (a2.ldp (i:=1) sM) Aa ?_
      refine Au (v:=vo) (((T.code.getD ((kk).toNat) Az.zero).a).toNat) Bs AV Z Z (a5.done hSB).none.slL oM sD Aa ?_
      obtain⟨g5,jn,e7⟩:=a5.getF (k:=((T.code.getD ((kk).toNat) Az.zero).a).toNat) sD
      have g6:=e7.lenL
      unfold maxLen at g6
      refine Ae (p:=Aw vo (((T.code.getD ((kk).toNat) Az.zero).a).toNat) 1) (.inl Z) g5 AZ Z jn Aa<|Ad 1 Z<|Am 207 [] [] [g5,ar] Z Z Ic Aa (BW _ _ _ _ _ e7.rd ah.rd C0 C0) ?_
      rintro no fl ⟨d1,rfl,au,av⟩
      refine⟨_,rfl,au,?_⟩
      replace au:=au.of_drew
      have l9:=au.size
      have g7:=an.trans au
      have cq:=a2.ext au
      have cr:=a5.ext au
      have jo:=ah.ext g1 au
      have jp:=e7.ext g1 au
      replace av:=av.low (B':=f2.heap.size)<|A7 _
      refine Au (v:=vo) (((T.code.getD ((kk).toNat) Az.zero).a).toNat) Bs AV Z Z (cr.done hSB).none.slL oM sD Aa ?_
      refine ES (v:=vo) (u:=d1) (w:=fl) H8 Z Z cr (RN.of_fr1 av fun b hb=>by rcases zi.1 hb with hb|hb;(have:=c0 b hb;omega);(have:=hFl b hb;omega)) sD Aa fun fe bl n3 e8=>?_
      have la:fl.heap.size≤fe.heap.size:=bl.size
      have jq:AF w fe:=bl.below g7 (fun c hc=>A8 hwB (cr.low c hc)) g7.size
      have e9:=cq.chg bl fun hm=>by have:=cr.low _ hm;have:=hFl _ hm;omega
      have g8:=jo.chg g1<|bl.sub fun b hb=>z1 _ hb
      have jr:=jp.chg g1<|bl.sub fun b hb=>z1 _ hb
      have js:=av.chg (o1) bl fun c hc=>zH<|hFl c hc
      refine Aj<|AO _ [0,0,1,0,0,1,0,1,0,3,0,4] mixed Gf ?_
      have ea:C7 K (xs.set (T.code.getD kk.toNat Az.zero).a.toNat (Cz (xs.getD (T.code.getD kk.toNat Az.zero).a.toNat []) (xs.getD kk.toNat []))):=Cx hxs oM
      have jt:(xs.set (T.code.getD kk.toNat Az.zero).a.toNat (Cz (xs.getD (T.code.getD kk.toNat Az.zero).a.toNat []) (xs.getD kk.toNat []))).length=T.code.length:=by rw[z6];exact hxl
      have hrb:=ea (T.code.getD kk.toNat Az.zero).b.toNat oM
      have hrb1:=hrb.1
      refine Ad 1 Z<|Ak (p:=zP f0.heap.size) 2 Bu Z Z Aa<|Ae (p:=An (zP f0.heap.size) 2) (.inl Z) (zI<|(T.code.getD ((kk).toNat) Az.zero).b) AC Z (e9.ldp (i:=2) sM) Aa<|Ad 1 Z<|Ak (p:=zP f0.heap.size) 2 Bu Z Z Aa<|Ae (p:=An (zP f0.heap.size) 2) (.inl Z) (zI<|(T.code.getD ((kk).toNat) Az.zero).b) AC Z (e9.ldp (i:=2) sM) Aa ?_
      refine Au (v:=vo) (((T.code.getD ((kk).toNat) Az.zero).b).toNat) Bs AV Z Z (e8.done hSB).none.slL oM sD Aa ?_
      obtain⟨g9,ju,eb⟩:=e8.getF (k:=((T.code.getD ((kk).toNat) Az.zero).b).toNat) sD
      have ga:=eb.lenL
      unfold maxLen at ga
      refine Ae (p:=Aw vo (((T.code.getD ((kk).toNat) Az.zero).b).toNat) 1) (.inl Z) g9 AZ Z ju Aa<|Ad 1 Z<|Am 207 [] [] [g9,ar] Z Z Ic Aa (BW _ _ _ _ _ eb.rd g8.rd C0 C0) ?_
      rintro np fm ⟨d2,rfl,ai,aw⟩
      refine⟨_,rfl,ai,?_⟩
      replace ai:=ai.of_drew
      have lb:=ai.size
      have gb:=jq.trans ai
      have cs:=e9.ext ai
      have ct:=js.ext (o1) ai
      have cu:=e8.ext ai
      have jv:=g8.ext g1 ai
      have jw:=jr.ext g1 ai
      have jx:=eb.ext g1 ai
      replace aw:=aw.low (B':=fe.heap.size)<|A7 _
      refine Au (v:=vo) (((T.code.getD ((kk).toNat) Az.zero).b).toNat) Bs AV Z Z (cu.done hSB).none.slL oM sD Aa ?_
      refine ES (v:=vo) (u:=d2) (w:=fm) H8 Z Z cu (RN.of_fr1 aw fun b hb=>by rcases zi.1 hb with hb|hb;(have:=c0 b hb;omega);(have:=hFl b hb;omega)) sD Aa fun fo b0 n4 jy=>?_
      have lc:fm.heap.size≤fo.heap.size:=b0.size
      have jz:AF w fo:=b0.below gb (fun c hc=>A8 hwB (cu.low c hc)) gb.size
      have n5:=cs.chg b0 fun hm=>by have:=cu.low _ hm;have:=hFl _ hm;omega
      have n6:=jv.chg g1<|b0.sub fun b hb=>z1 _ hb
      have n7:=jw.chg g1<|b0.sub fun b hb=>z1 _ hb
      have n8:=ct.chg (o1) b0 fun c hc=>zH<|hFl c hc
      have n9:=jx.chg g1<|b0.sub fun b hb=>z1 _ hb
      have na:=aw.chg (o1) b0 fun c hc=>zH<|hFl c hc
      refine Aj<|Ab _ [0,0,0] Z<|Ad 1 Z<|Bi (kk-1) Z Z (CT oM oM) Aa<|Ac 1 Z ?_
      have hbe:=jy
      exact⟨(kk-1,(xs.set (((T.code.getD ((kk).toNat) Az.zero).a).toNat) (Cz (xs.getD (((T.code.getD ((kk).toNat) Az.zero).a).toNat) []) (xs.getD ((kk).toNat) []))).set (((T.code.getD ((kk).toNat) Az.zero).b).toNat) (Cz ((xs.set (((T.code.getD ((kk).toNat) Az.zero).a).toNat) (Cz (xs.getD (((T.code.getD ((kk).toNat) Az.zero).a).toNat) []) (xs.getD ((kk).toNat) []))).getD (((T.code.getD ((kk).toNat) Az.zero).b).toNat) []) (xs.getD ((kk).toNat) [])),(us.set (((T.code.getD ((kk).toNat) Az.zero).a).toNat) d1).set (((T.code.getD ((kk).toNat) Az.zero).b).toNat) d2),_,rfl,zR,⟨jz,oM,hbe,JX,JY,JW⟩,zD⟩
    refine Ap false Z Z (A6 g4) Aa<|Ac 1 Z<|Ai Z<|ZN [0,0] Z ?_
    by_cases gc:(T.code.getD ((kk).toNat) Az.zero).op=((4:Nat):Int)
    ·
      refine Ap true Z Z (A5 gc) Aa<|Ac 1 Z<|Ah Z<|A0<|AO _ [0,0,1,0,0,1,0,1,0,3,0,4] mixed Gf ?_
      have hio:=(hform kk.toNat hkn).i2 oM
      have hra:=hxs (T.code.getD kk.toNat Az.zero).a.toNat oM
      have hra1:=hra.1
      have hRa:=hsR (T.code.getD kk.toNat Az.zero).a.toNat oM
      have hRb:=hsR (T.code.getD kk.toNat Az.zero).b.toNat oM
      have e4:=hRa.1
      have e6:=hRb.1
      refine Ad 1 Z<|Ak (p:=zP f0.heap.size) 1 Bt Z Z Aa<|Ae (p:=An (zP f0.heap.size) 1) (.inl Z) (zI<|(T.code.getD ((kk).toNat) Az.zero).a) AC Z (a2.ldp (i:=1) sM) Aa<|Ad 1 Z<|Ak (p:=zP f0.heap.size) 1 Bt Z Z Aa<|Ae (p:=An (zP f0.heap.size) 1) (.inl Z) (zI<|(T.code.getD ((kk).toNat) Az.zero).a) AC Z (a2.ldp (i:=1) sM) Aa ?_
      refine Au (v:=vo) (((T.code.getD ((kk).toNat) Az.zero).a).toNat) Bs AV Z Z (a5.done hSB).none.slL oM sD Aa ?_
      obtain⟨gd,k0,ec⟩:=a5.getF (k:=((T.code.getD ((kk).toNat) Az.zero).a).toNat) sD
      have ge:=ec.lenL
      unfold maxLen at ge
      refine Ae (p:=Aw vo (((T.code.getD ((kk).toNat) Az.zero).a).toNat) 1) (.inl Z) gd AZ Z k0 Aa<|Ad 1 Z<|Am 207 [] [] [gd,ar] Z Z Ic Aa (BW _ _ _ _ _ ec.rd ah.rd C0 C0) ?_
      rintro nq fp ⟨d3,rfl,ax,ay⟩
      refine⟨_,rfl,ax,?_⟩
      replace ax:=ax.of_drew
      have le:=ax.size
      have gf:=an.trans ax
      have cv:=a2.ext ax
      have cw:=a5.ext ax
      have k1:=ah.ext g1 ax
      have k2:=ec.ext g1 ax
      replace ay:=ay.low (B':=f2.heap.size)<|A7 _
      refine Au (v:=vo) (((T.code.getD ((kk).toNat) Az.zero).a).toNat) Bs AV Z Z (cw.done hSB).none.slL oM sD Aa ?_
      refine ES (v:=vo) (u:=d3) (w:=fp) H8 Z Z cw (RN.of_fr1 ay fun b hb=>by rcases zi.1 hb with hb|hb;(have:=c0 b hb;omega);(have:=hFl b hb;omega)) sD Aa fun ff bm nb ed=>?_
      have lf:fp.heap.size≤ff.heap.size:=bm.size
      have k3:AF w ff:=bm.below gf (fun c hc=>A8 hwB (cw.low c hc)) gf.size
      have ee:=cv.chg bm fun hm=>by have:=cw.low _ hm;have:=hFl _ hm;omega
      have gg:=k1.chg g1<|bm.sub fun b hb=>z1 _ hb
      have k4:=k2.chg g1<|bm.sub fun b hb=>z1 _ hb
      have k5:=ay.chg (o1) bm fun c hc=>zH<|hFl c hc
      refine Aj<|AO _ [0,0,1,0,0,1,0,1,0,3,0,4] mixed Gf ?_
      have ea:C7 K (xs.set (T.code.getD kk.toNat Az.zero).a.toNat (Cz (xs.getD (T.code.getD kk.toNat Az.zero).a.toNat []) (xs.getD kk.toNat []))):=Cx hxs oM
      have jt:(xs.set (T.code.getD kk.toNat Az.zero).a.toNat (Cz (xs.getD (T.code.getD kk.toNat Az.zero).a.toNat []) (xs.getD kk.toNat []))).length=T.code.length:=by rw[z6];exact hxl
      have hrb:=ea (T.code.getD kk.toNat Az.zero).b.toNat oM
      have hrb1:=hrb.1
      refine Ad 1 Z<|Ak (p:=zP f0.heap.size) 2 Bu Z Z Aa<|Ae (p:=An (zP f0.heap.size) 2) (.inl Z) (zI<|(T.code.getD ((kk).toNat) Az.zero).b) AC Z (ee.ldp (i:=2) sM) Aa<|Ad 1 Z<|Ak (p:=zP f0.heap.size) 2 Bu Z Z Aa<|Ae (p:=An (zP f0.heap.size) 2) (.inl Z) (zI<|(T.code.getD ((kk).toNat) Az.zero).b) AC Z (ee.ldp (i:=2) sM) Aa ?_
      refine Au (v:=vo) (((T.code.getD ((kk).toNat) Az.zero).b).toNat) Bs AV Z Z (ed.done hSB).none.slL oM sD Aa ?_
      obtain⟨gh,k6,ef⟩:=ed.getF (k:=((T.code.getD ((kk).toNat) Az.zero).b).toNat) sD
      have gi:=ef.lenL
      unfold maxLen at gi
      refine Ae (p:=Aw vo (((T.code.getD ((kk).toNat) Az.zero).b).toNat) 1) (.inl Z) gh AZ Z k6 Aa<|Ad 1 Z<|Am 208 [] [] [gh,ar] Z Z Oi Aa (DG _ _ _ _ _ ef.rd gg.rd C0 C0 C0) ?_
      rintro nr fq ⟨d4,rfl,aj,az⟩
      refine⟨_,rfl,aj,?_⟩
      replace aj:=aj.of_drew
      have lg:=aj.size
      have gj:=k3.trans aj
      have cx:=ee.ext aj
      have cy:=k5.ext (o1) aj
      have cz:=ed.ext aj
      have k7:=gg.ext g1 aj
      have k8:=k4.ext g1 aj
      have k9:=ef.ext g1 aj
      replace az:=az.low (B':=ff.heap.size)<|A7 _
      refine Au (v:=vo) (((T.code.getD ((kk).toNat) Az.zero).b).toNat) Bs AV Z Z (cz.done hSB).none.slL oM sD Aa ?_
      refine ES (v:=vo) (u:=d4) (w:=fq) H8 Z Z cz (RN.of_fr1 az fun b hb=>by rcases zi.1 hb with hb|hb;(have:=c0 b hb;omega);(have:=hFl b hb;omega)) sD Aa fun fr b1 nc ka=>?_
      have lh:fq.heap.size≤fr.heap.size:=b1.size
      have kb:AF w fr:=b1.below gj (fun c hc=>A8 hwB (cz.low c hc)) gj.size
      have li:=cx.chg b1 fun hm=>by have:=cz.low _ hm;have:=hFl _ hm;omega
      have lj:=k7.chg g1<|b1.sub fun b hb=>z1 _ hb
      have lk:=k8.chg g1<|b1.sub fun b hb=>z1 _ hb
      have ll:=cy.chg (o1) b1 fun c hc=>zH<|hFl c hc
      have lm:=k9.chg g1<|b1.sub fun b hb=>z1 _ hb
      have ln:=az.chg (o1) b1 fun c hc=>zH<|hFl c hc
      refine Aj<|Ab _ [0,0,0] Z<|Ad 1 Z<|Bi (kk-1) Z Z (CT oM oM) Aa<|Ac 1 Z ?_
      have hbe:=ka
      exact⟨(kk-1,(xs.set (((T.code.getD ((kk).toNat) Az.zero).a).toNat) (Cz (xs.getD (((T.code.getD ((kk).toNat) Az.zero).a).toNat) []) (xs.getD ((kk).toNat) []))).set (((T.code.getD ((kk).toNat) Az.zero).b).toNat) (GL ((xs.set (((T.code.getD ((kk).toNat) Az.zero).a).toNat) (Cz (xs.getD (((T.code.getD ((kk).toNat) Az.zero).a).toNat) []) (xs.getD ((kk).toNat) []))).getD (((T.code.getD ((kk).toNat) Az.zero).b).toNat) []) (xs.getD ((kk).toNat) [])),(us.set (((T.code.getD ((kk).toNat) Az.zero).a).toNat) d3).set (((T.code.getD ((kk).toNat) Az.zero).b).toNat) d4),_,rfl,zR,⟨kb,oM,hbe,JX,JY,JW⟩,zD⟩
    refine Ap false Z Z (A6 gc) Aa<|Ac 1 Z<|Ai Z<|ZN [0,0] Z ?_
    by_cases d5:(T.code.getD ((kk).toNat) Az.zero).op=((5:Nat):Int)
    ·
      refine Ap true Z Z (A5 d5) Aa<|Ac 1 Z<|Ah Z<|A0<|AO _ [0,0,1,0,0,1,0,1,0,0,0,1,0,1,3,3,0,4] mixed Gf ?_
      have hio:=(hform kk.toNat hkn).i2 oM
      have hra:=hxs (T.code.getD kk.toNat Az.zero).a.toNat oM
      have hra1:=hra.1
      have hRa:=hsR (T.code.getD kk.toNat Az.zero).a.toNat oM
      have hRb:=hsR (T.code.getD kk.toNat Az.zero).b.toNat oM
      have e4:=hRa.1
      have e6:=hRb.1
      refine Ad 1 Z<|Ak (p:=zP f0.heap.size) 1 Bt Z Z Aa<|Ae (p:=An (zP f0.heap.size) 1) (.inl Z) (zI<|(T.code.getD ((kk).toNat) Az.zero).a) AC Z (a2.ldp (i:=1) sM) Aa<|Ad 1 Z<|Ak (p:=zP f0.heap.size) 1 Bt Z Z Aa<|Ae (p:=An (zP f0.heap.size) 1) (.inl Z) (zI<|(T.code.getD ((kk).toNat) Az.zero).a) AC Z (a2.ldp (i:=1) sM) Aa ?_
      refine Au (v:=vo) (((T.code.getD ((kk).toNat) Az.zero).a).toNat) Bs AV Z Z (a5.done hSB).none.slL oM sD Aa ?_
      obtain⟨d6,gk,d7⟩:=a5.getF (k:=((T.code.getD ((kk).toNat) Az.zero).a).toNat) sD
      have eg:=d7.lenL
      unfold maxLen at eg
      refine Ae (p:=Aw vo (((T.code.getD ((kk).toNat) Az.zero).a).toNat) 1) (.inl Z) d6 AZ Z gk Aa<|Ad 2 Z<|Ak (p:=zP f0.heap.size) 2 Bu Z Z Aa<|Ae (p:=An (zP f0.heap.size) 2) (.inl Z) (zI<|(T.code.getD ((kk).toNat) Az.zero).b) AC Z (a2.ldp (i:=2) sM) Aa ?_
      refine Au (v:=vr) (((T.code.getD ((kk).toNat) Az.zero).b).toNat) Bs AV Z Z hR.slL oM sD Aa ?_
      obtain⟨d8,gl,d9⟩:=RN.getL (w:=w) g1 [] (k:=((T.code.getD ((kk).toNat) Az.zero).b).toNat) hR sD
      have eh:=d9.lenL
      unfold maxLen at eh
      refine Ae (p:=Aw vr (((T.code.getD ((kk).toNat) Az.zero).b).toNat) 1) (.inl Z) d8 AZ Z (gl _<|AA.of_ext [] an.drew) Aa<|Am 209 [] [] [ar,d8] Z Z Oj Aa (DH _ _ _ _ _ ah.rd (d9.ext g1 an.drew).rd C0 C0) ?_
      rintro ft fu ⟨ei,rfl,a9,ac⟩
      refine⟨_,rfl,a9,?_⟩
      replace a9:=a9.of_drew
      have kc:=a9.size
      have gm:=an.trans a9
      have c6:=a2.ext a9
      have gn:=a5.ext a9
      have go:=ah.ext g1 a9
      have da:=d7.ext g1 a9
      replace ac:=ac.low (B':=f2.heap.size)<|A7 _
      refine Am 207 [] [] [d6,ei] Z Z Ic Aa (BW _ _ _ _ _ da.rd ac.rd1 C0 C0) ?_
      rintro fv f6 ⟨c7,rfl,ab,b8⟩
      refine⟨_,rfl,ab,?_⟩
      have kd:=ab.size
      have db:=gm.trans ab
      have c8:=c6.ext ab
      have b2:=ac.ext (o1) ab
      have b9:=gn.ext ab
      have gp:=go.ext g1 ab
      have gq:=da.ext g1 ab
      refine Au (v:=vo) (((T.code.getD ((kk).toNat) Az.zero).a).toNat) Bs AV Z Z (b9.done hSB).none.slL oM sD Aa ?_
      refine ES (v:=vo) (u:=c7) (w:=f6) H8 Z Z b9 (RN.of_fr1 b8 fun b hb=>by rcases zi.1 hb with hb|hb;(have:=c0 b hb;omega);(have:=hFl b hb;omega)) sD Aa fun f3 ak lo c9=>?_
      have ke:f6.heap.size≤f3.heap.size:=ak.size
      have ca:AF w f3:=ak.below db (fun c hc=>A8 hwB (b9.low c hc)) db.size
      have ba:=c8.chg ak fun hm=>by have:=b9.low _ hm;have:=hFl _ hm;omega
      have dc:=gp.chg g1<|ak.sub fun b hb=>z1 _ hb
      have gr:=gq.chg g1<|ak.sub fun b hb=>z1 _ hb
      have gs:=b2.chg (o1) ak fun c hc=>zH<|hFl c hc
      have gt:=b8.chg (o1) ak fun c hc=>zH<|hFl c hc
      refine Aj<|AO _ [0,0,1,0,0,1,0,1,0,0,0,1,0,1,3,3,0,4] mixed Gf ?_
      have ea:C7 K (xs.set (T.code.getD kk.toNat Az.zero).a.toNat (Cz (xs.getD (T.code.getD kk.toNat Az.zero).a.toNat []) (Cs (xs.getD kk.toNat []) (R.getD (T.code.getD kk.toNat Az.zero).b.toNat [])))):=Cx hxs oM
      have jt:(xs.set (T.code.getD kk.toNat Az.zero).a.toNat (Cz (xs.getD (T.code.getD kk.toNat Az.zero).a.toNat []) (Cs (xs.getD kk.toNat []) (R.getD (T.code.getD kk.toNat Az.zero).b.toNat [])))).length=T.code.length:=by rw[z6];exact hxl
      have hrb:=ea (T.code.getD kk.toNat Az.zero).b.toNat oM
      have hrb1:=hrb.1
      refine Ad 1 Z<|Ak (p:=zP f0.heap.size) 2 Bu Z Z Aa<|Ae (p:=An (zP f0.heap.size) 2) (.inl Z) (zI<|(T.code.getD ((kk).toNat) Az.zero).b) AC Z (ba.ldp (i:=2) sM) Aa<|Ad 1 Z<|Ak (p:=zP f0.heap.size) 2 Bu Z Z Aa<|Ae (p:=An (zP f0.heap.size) 2) (.inl Z) (zI<|(T.code.getD ((kk).toNat) Az.zero).b) AC Z (ba.ldp (i:=2) sM) Aa ?_
      refine Au (v:=vo) (((T.code.getD ((kk).toNat) Az.zero).b).toNat) Bs AV Z Z (c9.done hSB).none.slL oM sD Aa ?_
      obtain⟨dd,gu,de⟩:=c9.getF (k:=((T.code.getD ((kk).toNat) Az.zero).b).toNat) sD
      have ej:=de.lenL
      unfold maxLen at ej
      refine Ae (p:=Aw vo (((T.code.getD ((kk).toNat) Az.zero).b).toNat) 1) (.inl Z) dd AZ Z gu Aa<|Ad 2 Z<|Ak (p:=zP f0.heap.size) 1 Bt Z Z Aa<|Ae (p:=An (zP f0.heap.size) 1) (.inl Z) (zI<|(T.code.getD ((kk).toNat) Az.zero).a) AC Z (ba.ldp (i:=1) sM) Aa ?_
      refine Au (v:=vr) (((T.code.getD ((kk).toNat) Az.zero).a).toNat) Bs AV Z Z hR.slL oM sD Aa ?_
      obtain⟨df,gv,dg⟩:=RN.getL (w:=w) g1 [] (k:=((T.code.getD ((kk).toNat) Az.zero).a).toNat) hR sD
      have ek:=dg.lenL
      unfold maxLen at ek
      refine Ae (p:=Aw vr (((T.code.getD ((kk).toNat) Az.zero).a).toNat) 1) (.inl Z) df AZ Z (gv _<|AA.of_ext [] ca.drew) Aa<|Am 209 [] [] [ar,df] Z Z Oj Aa (DH _ _ _ _ _ dc.rd (dg.ext g1 ca.drew).rd C0 C0) ?_
      rintro fw fx ⟨el,rfl,a0,ad⟩
      refine⟨_,rfl,a0,?_⟩
      replace a0:=a0.of_drew
      have kf:=a0.size
      have gw:=ca.trans a0
      have bn:=ba.ext a0
      have bo:=gs.ext (o1) a0
      have bp:=gt.ext (o1) a0
      have gx:=c9.ext a0
      have gy:=dc.ext g1 a0
      have gz:=gr.ext g1 a0
      have dh:=de.ext g1 a0
      replace ad:=ad.low (B':=f3.heap.size)<|A7 _
      refine Am 207 [] [] [dd,el] Z Z Ic Aa (BW _ _ _ _ _ dh.rd ad.rd1 C0 C0) ?_
      rintro fy f7 ⟨cb,rfl,a3,bb⟩
      refine⟨_,rfl,a3,?_⟩
      have kg:=a3.size
      have di:=gw.trans a3
      have bq:=bn.ext a3
      have br:=bo.ext (o1) a3
      have bs:=bp.ext (o1) a3
      have b3:=ad.ext (o1) a3
      have bc:=gx.ext a3
      have i0:=gy.ext g1 a3
      have i1:=gz.ext g1 a3
      have i3:=dh.ext g1 a3
      refine Au (v:=vo) (((T.code.getD ((kk).toNat) Az.zero).b).toNat) Bs AV Z Z (bc.done hSB).none.slL oM sD Aa ?_
      refine ES (v:=vo) (u:=cb) (w:=f7) H8 Z Z bc (RN.of_fr1 bb fun b hb=>by rcases zi.1 hb with hb|hb;(have:=c0 b hb;omega);(have:=hFl b hb;omega)) sD Aa fun f8 a6 lp i4=>?_
      have kh:f7.heap.size≤f8.heap.size:=a6.size
      have i5:AF w f8:=a6.below di (fun c hc=>A8 hwB (bc.low c hc)) di.size
      have lq:=bq.chg a6 fun hm=>by have:=bc.low _ hm;have:=hFl _ hm;omega
      have lr:=i0.chg g1<|a6.sub fun b hb=>z1 _ hb
      have ls:=i1.chg g1<|a6.sub fun b hb=>z1 _ hb
      have lu:=br.chg (o1) a6 fun c hc=>zH<|hFl c hc
      have lv:=bs.chg (o1) a6 fun c hc=>zH<|hFl c hc
      have lw:=i3.chg g1<|a6.sub fun b hb=>z1 _ hb
      have lx:=b3.chg (o1) a6 fun c hc=>zH<|hFl c hc
      have ly:=bb.chg (o1) a6 fun c hc=>zH<|hFl c hc
      refine Aj<|Ab _ [0,0,0] Z<|Ad 1 Z<|Bi (kk-1) Z Z (CT oM oM) Aa<|Ac 1 Z ?_
      have hbe:=i4
      exact⟨(kk-1,(xs.set (((T.code.getD ((kk).toNat) Az.zero).a).toNat) (Cz (xs.getD (((T.code.getD ((kk).toNat) Az.zero).a).toNat) []) (Cs (xs.getD ((kk).toNat) []) (R.getD (((T.code.getD ((kk).toNat) Az.zero).b).toNat) [])))).set (((T.code.getD ((kk).toNat) Az.zero).b).toNat) (Cz ((xs.set (((T.code.getD ((kk).toNat) Az.zero).a).toNat) (Cz (xs.getD (((T.code.getD ((kk).toNat) Az.zero).a).toNat) []) (Cs (xs.getD ((kk).toNat) []) (R.getD (((T.code.getD ((kk).toNat) Az.zero).b).toNat) [])))).getD (((T.code.getD ((kk).toNat) Az.zero).b).toNat) []) (Cs (xs.getD ((kk).toNat) []) (R.getD (((T.code.getD ((kk).toNat) Az.zero).a).toNat) []))),(us.set (((T.code.getD ((kk).toNat) Az.zero).a).toNat) c7).set (((T.code.getD ((kk).toNat) Az.zero).b).toNat) cb),_,rfl,zR,⟨i5,oM,hbe,JX,JY,JW⟩,zD⟩
    refine Ap false Z Z (A6 d5) Aa<|Ac 1 Z<|Ai Z<|ZN [0,0] Z ?_
    by_cases dj:(T.code.getD ((kk).toNat) Az.zero).op=((6:Nat):Int)
    ·
      refine Ap true Z Z (A5 dj) Aa<|Ac 1 Z<|Ah Z<|ZN [0,0,0,2,0,2,3,0] Z ?_
      have hio:=(hform kk.toNat hkn).i2 oM
      have hra:=hxs (T.code.getD kk.toNat Az.zero).a.toNat oM
      have hra1:=hra.1
      have hRa:=hsR (T.code.getD kk.toNat Az.zero).a.toNat oM
      have hRb:=hsR (T.code.getD kk.toNat Az.zero).b.toNat oM
      have e4:=hRa.1
      have e6:=hRb.1
      refine Ad 2 Z<|Ak (p:=zP f0.heap.size) 2 Bu Z Z Aa<|Ae (p:=An (zP f0.heap.size) 2) (.inr Z) (zI<|(T.code.getD ((kk).toNat) Az.zero).b) AC Z (a2.ldp (i:=2) sM) Aa<|Au (v:=vr) (((T.code.getD ((kk).toNat) Az.zero).b).toNat) Bs AV Z Z hR.slL oM sD Aa ?_
      obtain⟨dk,i6,dl⟩:=RN.getL (w:=w) g1 [] (k:=((T.code.getD ((kk).toNat) Az.zero).b).toNat) hR sD
      have em:=dl.lenL
      unfold maxLen at em
      refine Ae (p:=Aw vr (((T.code.getD ((kk).toNat) Az.zero).b).toNat) 1) (.inr Z) dk AZ Z (i6 _<|AA.of_ext [] an) Aa<|Am 210 [] [] [ar,dk] Z Z Sn Aa (Ge _ _ _ _ _ ah.rd (dl.ext g1 an).rd C0 C0 oM hro.2) ?_
      rintro fz fg ⟨cc,rfl,ao,bd⟩
      refine⟨_,rfl,ao,?_⟩
      have ki:=ao.size
      have i8:=an.trans ao
      have al:=a2.ext ao
      have cd:=a5.ext ao
      have i9:=ah.ext g1 ao
      refine Ac 1 Z<|A0<|AO _ [0,0,1,0,0,1,0,1,0,3,0,4] mixed Gf<|Ad 1 Z<|Ak (p:=zP f0.heap.size) 1 Bt Z Z Aa<|Ae (p:=An (zP f0.heap.size) 1) (.inl Z) (zI<|(T.code.getD ((kk).toNat) Az.zero).a) AC Z (al.ldp (i:=1) sM) Aa<|Ad 1 Z<|Ak (p:=zP f0.heap.size) 1 Bt Z Z Aa<|Ae (p:=An (zP f0.heap.size) 1) (.inl Z) (zI<|(T.code.getD ((kk).toNat) Az.zero).a) AC Z (al.ldp (i:=1) sM) Aa ?_
      refine Au (v:=vo) (((T.code.getD ((kk).toNat) Az.zero).a).toNat) Bs AV Z Z (cd.done hSB).none.slL oM sD Aa ?_
      obtain⟨dm,ia,ce⟩:=cd.getF (k:=((T.code.getD ((kk).toNat) Az.zero).a).toNat) sD
      have en:=ce.lenL
      unfold maxLen at en
      refine Ae (p:=Aw vo (((T.code.getD ((kk).toNat) Az.zero).a).toNat) 1) (.inl Z) dm AZ Z ia Aa<|Ad 1 Z<|Am 207 [] [] [dm,cc] Z Z Ic Aa (BW _ _ _ _ _ ce.rd bd.rd1 C0 C0) ?_
      rintro nf f9 ⟨cf,rfl,a7,ae⟩
      refine⟨_,rfl,a7,?_⟩
      replace a7:=a7.of_drew
      have kj:=a7.size
      have dn:=i8.trans a7
      have cg:=al.ext a7
      have b4:=bd.ext (o1) a7
      have be:=cd.ext a7
      have ib:=i9.ext g1 a7
      have ic:=ce.ext g1 a7
      replace ae:=ae.low (B':=fg.heap.size)<|A7 _
      refine Au (v:=vo) (((T.code.getD ((kk).toNat) Az.zero).a).toNat) Bs AV Z Z (be.done hSB).none.slL oM sD Aa ?_
      refine ES (v:=vo) (u:=cf) (w:=f9) H8 Z Z be (RN.of_fr1 ae fun b hb=>by rcases zi.1 hb with hb|hb;(have:=c0 b hb;omega);(have:=hFl b hb;omega)) sD Aa fun f4 am lz ch=>?_
      have kl:f9.heap.size≤f4.heap.size:=am.size
      have ci:AF w f4:=am.below dn (fun c hc=>A8 hwB (be.low c hc)) dn.size
      have cj:=cg.chg am fun hm=>by have:=be.low _ hm;have:=hFl _ hm;omega
      have id:=ib.chg g1<|am.sub fun b hb=>z1 _ hb
      have dp:=b4.chg (o1) am fun c hc=>zH<|hFl c hc
      have ie:=ic.chg g1<|am.sub fun b hb=>z1 _ hb
      have ig:=ae.chg (o1) am fun c hc=>zH<|hFl c hc
      refine Aj<|AO _ [0,0,1,0,0,1,0,1,0,0,0,0,1,3,3,0,4] mixed Gf ?_
      have ea:C7 K (xs.set (T.code.getD kk.toNat Az.zero).a.toNat (Cz (xs.getD (T.code.getD kk.toNat Az.zero).a.toNat []) (Cm (xs.getD kk.toNat []) (R.getD (T.code.getD kk.toNat Az.zero).b.toNat [])))):=Cx hxs oM
      have jt:(xs.set (T.code.getD kk.toNat Az.zero).a.toNat (Cz (xs.getD (T.code.getD kk.toNat Az.zero).a.toNat []) (Cm (xs.getD kk.toNat []) (R.getD (T.code.getD kk.toNat Az.zero).b.toNat [])))).length=T.code.length:=by rw[z6];exact hxl
      have hrb:=ea (T.code.getD kk.toNat Az.zero).b.toNat oM
      have hrb1:=hrb.1
      have hpz:(Cs (Cm (xs.getD kk.toNat []) (R.getD (T.code.getD kk.toNat Az.zero).b.toNat [])) (R.getD kk.toNat [])).length=K:=by simp only[FC,DC];exact hro1
      refine Ad 1 Z<|Ak (p:=zP f0.heap.size) 2 Bu Z Z Aa<|Ae (p:=An (zP f0.heap.size) 2) (.inl Z) (zI<|(T.code.getD ((kk).toNat) Az.zero).b) AC Z (cj.ldp (i:=2) sM) Aa<|Ad 1 Z<|Ak (p:=zP f0.heap.size) 2 Bu Z Z Aa<|Ae (p:=An (zP f0.heap.size) 2) (.inl Z) (zI<|(T.code.getD ((kk).toNat) Az.zero).b) AC Z (cj.ldp (i:=2) sM) Aa ?_
      refine Au (v:=vo) (((T.code.getD ((kk).toNat) Az.zero).b).toNat) Bs AV Z Z (ch.done hSB).none.slL oM sD Aa ?_
      obtain⟨dq,ih,dr⟩:=ch.getF (k:=((T.code.getD ((kk).toNat) Az.zero).b).toNat) sD
      have eo:=dr.lenL
      unfold maxLen at eo
      refine Ae (p:=Aw vo (((T.code.getD ((kk).toNat) Az.zero).b).toNat) 1) (.inl Z) dq AZ Z ih Aa<|Ad 3 Z<|Au (v:=vr) ((kk).toNat) Bs AV Z Z hR.slL oM sD Aa ?_
      obtain⟨ds,ii,dt⟩:=RN.getL (w:=w) g1 [] (k:=(kk).toNat) hR sD
      have ep:=dt.lenL
      unfold maxLen at ep
      refine Ae (p:=Aw vr ((kk).toNat) 1) (.inl Z) ds AZ Z (ii _<|AA.of_ext [] ci.drew) Aa<|Am 209 [] [] [cc,ds] Z Z Oj Aa (DH _ _ _ _ _ dp.rd1 (dt.ext g1 ci.drew).rd C0 C0) ?_
      rintro ng nh ⟨eq,rfl,a1,af⟩
      refine⟨_,rfl,a1,?_⟩
      replace a1:=a1.of_drew
      have km:=a1.size
      have ij:=ci.trans a1
      have bt:=cj.ext a1
      have bu:=dp.ext (o1) a1
      have bv:=ig.ext (o1) a1
      have ik:=ch.ext a1
      have il:=id.ext g1 a1
      have im:=ie.ext g1 a1
      have du:=dr.ext g1 a1
      replace af:=af.low (B':=f4.heap.size)<|A7 _
      refine Am 208 [] [] [dq,eq] Z Z Oi Aa (DG _ _ _ _ _ du.rd af.rd1 C0 C0 C0) ?_
      rintro nj fa ⟨ck,rfl,a4,bf⟩
      refine⟨_,rfl,a4,?_⟩
      have kn:=a4.size
      have dv:=ij.trans a4
      have bw:=bt.ext a4
      have bx:=bu.ext (o1) a4
      have bz:=bv.ext (o1) a4
      have b5:=af.ext (o1) a4
      have bg:=ik.ext a4
      have io:=il.ext g1 a4
      have ip:=im.ext g1 a4
      have iq:=du.ext g1 a4
      refine Au (v:=vo) (((T.code.getD ((kk).toNat) Az.zero).b).toNat) Bs AV Z Z (bg.done hSB).none.slL oM sD Aa ?_
      refine ES (v:=vo) (u:=ck) (w:=fa) H8 Z Z bg (RN.of_fr1 bf fun b hb=>by rcases zi.1 hb with hb|hb;(have:=c0 b hb;omega);(have:=hFl b hb;omega)) sD Aa fun fb a8 m0 ir=>?_
      have ko:fa.heap.size≤fb.heap.size:=a8.size
      have is:AF w fb:=a8.below dv (fun c hc=>A8 hwB (bg.low c hc)) dv.size
      have m1:=bw.chg a8 fun hm=>by have:=bg.low _ hm;have:=hFl _ hm;omega
      have m2:=io.chg g1<|a8.sub fun b hb=>z1 _ hb
      have m3:=bx.chg (o1) a8 fun c hc=>zH<|hFl c hc
      have m4:=ip.chg g1<|a8.sub fun b hb=>z1 _ hb
      have m5:=bz.chg (o1) a8 fun c hc=>zH<|hFl c hc
      have m6:=iq.chg g1<|a8.sub fun b hb=>z1 _ hb
      have m7:=b5.chg (o1) a8 fun c hc=>zH<|hFl c hc
      have m8:=bf.chg (o1) a8 fun c hc=>zH<|hFl c hc
      refine Aj<|Ab _ [0,0,0] Z<|Ad 1 Z<|Bi (kk-1) Z Z (CT oM oM) Aa<|Ac 1 Z ?_
      have hbe:=ir
      exact⟨(kk-1,(xs.set (((T.code.getD ((kk).toNat) Az.zero).a).toNat) (Cz (xs.getD (((T.code.getD ((kk).toNat) Az.zero).a).toNat) []) (Cm (xs.getD ((kk).toNat) []) (R.getD (((T.code.getD ((kk).toNat) Az.zero).b).toNat) [])))).set (((T.code.getD ((kk).toNat) Az.zero).b).toNat) (GL ((xs.set (((T.code.getD ((kk).toNat) Az.zero).a).toNat) (Cz (xs.getD (((T.code.getD ((kk).toNat) Az.zero).a).toNat) []) (Cm (xs.getD ((kk).toNat) []) (R.getD (((T.code.getD ((kk).toNat) Az.zero).b).toNat) [])))).getD (((T.code.getD ((kk).toNat) Az.zero).b).toNat) []) (Cs (Cm (xs.getD ((kk).toNat) []) (R.getD (((T.code.getD ((kk).toNat) Az.zero).b).toNat) [])) (R.getD ((kk).toNat) []))),(us.set (((T.code.getD ((kk).toNat) Az.zero).a).toNat) cf).set (((T.code.getD ((kk).toNat) Az.zero).b).toNat) ck),_,rfl,zR,⟨is,oM,hbe,JX,JY,JW⟩,zD⟩
    refine Ap false Z Z (A6 dj) Aa<|Ac 1 Z<|Ai Z<|ZN [0,0] Z ?_
    by_cases dw:(T.code.getD ((kk).toNat) Az.zero).op=((7:Nat):Int)
    ·
      refine Ap true Z Z (A5 dw) Aa<|Ac 1 Z<|Ah Z<|AO _ [0,0,1,0,0,1,0,1,0,3,0,4] mixed Gf ?_
      have hio:=(hform kk.toNat hkn).i7 oM
      have hra:=hxs (T.code.getD kk.toNat Az.zero).a.toNat oM
      have hra1:=hra.1
      refine Ad 1 Z<|Ak (p:=zP f0.heap.size) 1 Bt Z Z Aa<|Ae (p:=An (zP f0.heap.size) 1) (.inl Z) (zI<|(T.code.getD ((kk).toNat) Az.zero).a) AC Z (a2.ldp (i:=1) sM) Aa<|Ad 1 Z<|Ak (p:=zP f0.heap.size) 1 Bt Z Z Aa<|Ae (p:=An (zP f0.heap.size) 1) (.inl Z) (zI<|(T.code.getD ((kk).toNat) Az.zero).a) AC Z (a2.ldp (i:=1) sM) Aa ?_
      refine Au (v:=vo) (((T.code.getD ((kk).toNat) Az.zero).a).toNat) Bs AV Z Z (a5.done hSB).none.slL oM sD Aa ?_
      obtain⟨dx,it,cl⟩:=a5.getF (k:=((T.code.getD ((kk).toNat) Az.zero).a).toNat) sD
      have er:=cl.lenL
      unfold maxLen at er
      refine Ae (p:=Aw vo (((T.code.getD ((kk).toNat) Az.zero).a).toNat) 1) (.inl Z) dx AZ Z it Aa<|Ad 1 Z<|Am 208 [] [] [dx,ar] Z Z Oi Aa (DG _ _ _ _ _ cl.rd ah.rd C0 C0 C0) ?_
      rintro nk fc ⟨cm,rfl,aa,ag⟩
      refine⟨_,rfl,aa,?_⟩
      replace aa:=aa.of_drew
      have kp:=aa.size
      have dy:=an.trans aa
      have cn:=a2.ext aa
      have bh:=a5.ext aa
      have iu:=ah.ext g1 aa
      have iv:=cl.ext g1 aa
      replace ag:=ag.low (B':=f2.heap.size)<|A7 _
      refine Au (v:=vo) (((T.code.getD ((kk).toNat) Az.zero).a).toNat) Bs AV Z Z (bh.done hSB).none.slL oM sD Aa ?_
      refine ES (v:=vo) (u:=cm) (w:=fc) H8 Z Z bh (RN.of_fr1 ag fun b hb=>by rcases zi.1 hb with hb|hb;(have:=c0 b hb;omega);(have:=hFl b hb;omega)) sD Aa fun fd ap m9 iw=>?_
      have kq:fc.heap.size≤fd.heap.size:=ap.size
      have ix:AF w fd:=ap.below dy (fun c hc=>A8 hwB (bh.low c hc)) dy.size
      have ma:=cn.chg ap fun hm=>by have:=bh.low _ hm;have:=hFl _ hm;omega
      have mb:=iu.chg g1<|ap.sub fun b hb=>z1 _ hb
      have mc:=iv.chg g1<|ap.sub fun b hb=>z1 _ hb
      have md:=ag.chg (o1) ap fun c hc=>zH<|hFl c hc
      refine Aj<|Ab _ [0,0,0] Z<|Ad 1 Z<|Bi (kk-1) Z Z (CT oM oM) Aa<|Ac 1 Z ?_
      have hbe:=iw
      exact⟨(kk-1,xs.set (((T.code.getD ((kk).toNat) Az.zero).a).toNat) (GL (xs.getD (((T.code.getD ((kk).toNat) Az.zero).a).toNat) []) (xs.getD ((kk).toNat) [])),us.set (((T.code.getD ((kk).toNat) Az.zero).a).toNat) cm),_,rfl,zR,⟨ix,oM,hbe,JX,JY,JW⟩,zD⟩
    refine Ap false Z Z (A6 dw) Aa<|Ac 1 Z<|Ai Z<|A2<|Ab _ [0,0,0] Z<|Ad 1 Z<|Bi (kk-1) Z Z (CT oM oM) Aa<|Ac 1 Z ?_
    have hbe:=a5
    exact⟨(kk-1,xs,us),_,rfl,zR,⟨an,oM,hbe,JX,JY,JW⟩,zD⟩
  refine CU false Z Z (A6 g0) Aa<|Aj<|Ai Z<|A4<|Ay<|Ay<|At<|ZN [0,0] Z<|Ac 2 Z<|A1 ?_
  have hfin:xs=I2 T.code R oT ws:=by have h9:=hadj;rw[show(kk+1).toNat=0 from by omega,j0,iz]at h9;exact h9
  exact Af [8] Z vo Z ⟨_,rfl,bk,(by rw[← hfin];exact(hbl.done hSB)),hbl.cap⟩
theorem JZ (w:World)(vt:Value)(ipT:Int)(T:Tp)(oT:Sr)(vl:Value)(L:List (Sr))(k:Int)(hT:RN [] (rP T4) w.heap vt ⟨ipT,T,oT⟩)(hL:RN [] (B5 (B5 rI)) w.heap vl L)(hqL:BV vl)(_hk:Bk k)(ax:k=0)(hni:0≤ipT∧ipT≤1000)(hlL:L.length=T.code.length)(hsL:∀k,k<L.length→1≤(L.getD k []).length∧B9 (L.getD k [])=true)(hlt:T.code.length≤4000)(hform:∀k,k<T.code.length→DI ipT.toNat k (T.code.getD k Az.zero)) :
    Calls Tryz.prog 140 #[vt,vl,zI k] w (fun e w'=>∃v0:Value,e=.returned (v0)∧AF w w'∧Fr (Bo rI 2) w.heap.size w'.heap.size w'.heap v0 (Nz T.code L (List.replicate ipT.toNat 0) T.code.length)):=by
  refine As [vt,vl,zI k] 62 Tryz.func140 Z Z sM ?_
  have a6:AF w w:=AF.refl w
  have b0:=hL.lenL
  unfold maxLen at b0
  refine ZO Z<|ZN [0,0,0,2,3,0] Z<|Ad 1 Z<|AG (hT.isPtr) Z Aa ?_
  obtain⟨cs1,ap,a2⟩:=RN.at Dk hT
  obtain⟨az,vg1,vx1,rfl,af,a4,ag,ah⟩:=RTp.of ap
  replace af:Bk ipT:=af
  replace a4:RN [] (Cj 4 Jy) w.heap az T.code:=a4
  replace ag:RN [] (Cj 2 Jz) w.heap vg1 T.grd:=ag
  replace ah:RN [] (B5 rI) w.heap vx1 oT:=ah
  refine AD (p:=vt) 0 Ga Z (a2 _<|AA.of_ext [] a6) Aa<|Ae (p:=An vt 0) (.inr Z) (zI ipT) AC Z ((a2 _<|AA.of_ext [] a6).ld (i:=0) CR) Aa (Fx (n:=(ipT).toNat) Bl BD Z Z oM sD Aa fun v2 w2 a7 aq ai=>?_)
  have a8:=a7.size
  have aj:=a6.trans a7
  refine Ac 1 Z<|A0<|ZO Z<|A3<|AT (S:=Nat) (fun j=>([(8,zI (j:Int)),(0,vt),(1,vl),(2,zI k),(7,v2)])) (fun j W=>AF w W∧Fr (Bo rI 2) w.heap.size W.heap.size W.heap v2 (Nz T.code L (List.replicate ipT.toNat 0) j)∧j≤T.code.length) (fun j=>T.code.length-j) 0 ⟨rfl,rfl,rfl,rfl,rfl,trivial⟩ ⟨aj,ai.up o1,oM⟩ ?_
  clear a6 ai aq a7 a8 aj
  rintro j ρ3 w3 ⟨a1,a0,ak⟩
  have ar:w.heap.size≤w3.heap.size:=a1.size
  refine A0<|ZN [0,0,0,0,2,0,0] Z<|Ad 2 Z<|AG (hT.isPtr) Z Aa<|AD (p:=vt) 1 Cb Z (a2 _<|AA.of_ext [] a1) Aa<|Ae (p:=An vt 1) (.inr Z) az Dv Z ((a2 _<|AA.of_ext [] a1).ld (i:=1) CR) Aa<|AP (v:=az) IP Z a4.isSl Aa ?_
  by_cases al:(j:Int)<(T.code.length:Int)
  ·
    refine AE true Z Z (A5 al) Aa<|Aj<|Ah Z<|A2<|A0<|A3<|ZN [0,0,0,2,0,0,0,2,0] Z<|Ad 1 Z<|AG (hT.isPtr) Z Aa<|AD (p:=vt) 1 Cb Z (a2 _<|AA.of_ext [] a1) Aa<|Ae (p:=An vt 1) (.inr Z) az Dv Z ((a2 _<|AA.of_ext [] a1).ld (i:=1) CR) Aa<|Ad 1 Z ?_
    refine Au (v:=az) j IP EM Z Z a4.isSl Z sD Aa ?_
    obtain⟨cs5,au,a5⟩:=a4.get AW Az.zero (k:=j) sD
    obtain⟨rfl,ay⟩:=Hr au
    refine AD (p:=Aw az j 4) 0 GR Z (a5 _<|AA.of_ext [] a1) Aa<|Ae (p:=An (Aw az j 4) 0) (.inr Z) (zI<|(T.code.getD j Az.zero).op) AC Z ((a5 _<|AA.of_ext [] a1).ld (i:=0) CR) Aa ?_
    by_cases am:(T.code.getD j Az.zero).op=((1:Nat):Int)
    ·
      refine Ap true Z Z (A5 am) Aa<|Aj<|Ah Z<|AO _ [0,0,0,0,1,0,0,0,1,0,0,0,0,1,0,0,0,1,0,1,0,0,0,1,0,0,1,0,0,4] mixed (by kernel_rfl) ?_
      have hjk:j<T.code.length:=by omega
      have hio:=(hform j hjk).i1 oM
      have hLj:=hsL j oM
      have hbn:(Nz T.code L (List.replicate ipT.toNat 0) j).length=ipT.toNat:=by rw[TQ,z5]
      refine Ad 2 Z<|AG (hT.isPtr) Z Aa<|AD (p:=vt) 1 Cb Z (a2 _<|AA.of_ext [] a1.drew) Aa<|Ae (p:=An vt 1) (.inl Z) az Dv Z ((a2 _<|AA.of_ext [] a1.drew).ld (i:=1) CR) Aa<|Ad 1 Z<|Au (v:=az) j IP EM Z Z a4.isSl Z sD Aa<|AD (p:=Aw az j 4) 3 Cy Z (a5 _<|AA.of_ext [] a1.drew) Aa ?_
      refine Ae (p:=An (Aw az j 4) 3) (.inl Z) (zI<|(T.code.getD j Az.zero).num) AC Z ((a5 _<|AA.of_ext [] a1.drew).ld (i:=3) CR) Aa<|Ad 2 Z<|AG (hT.isPtr) Z Aa<|AD (p:=vt) 1 Cb Z (a2 _<|AA.of_ext [] a1.drew) Aa<|Ae (p:=An vt 1) (.inl Z) az Dv Z ((a2 _<|AA.of_ext [] a1.drew).ld (i:=1) CR) Aa<|Ad 1 Z ?_
      refine Au (v:=az) j IP EM Z Z a4.isSl Z sD Aa<|AD (p:=Aw az j 4) 3 Cy Z (a5 _<|AA.of_ext [] a1.drew) Aa<|Ae (p:=An (Aw az j 4) 3) (.inl Z) (zI<|(T.code.getD j Az.zero).num) AC Z ((a5 _<|AA.of_ext [] a1.drew).ld (i:=3) CR) Aa ?_
      refine Au (v:=v2) (((T.code.getD j Az.zero).num).toNat) Bl BD Z Z a0.isSl oM sD Aa ?_
      refine Ae (p:=Aw v2 (((T.code.getD j Az.zero).num).toNat) 1) (.inl Z) (zI<|(Nz T.code L (List.replicate ipT.toNat 0) j).getD (((T.code.getD j Az.zero).num).toNat) 0) AC Z (a0.rd1.getI sD).1 Aa (Ad 2 Z ?_)
      refine Au (v:=vl) j Bs AV Z Z hL.slL Z sD Aa ?_
      obtain⟨a9,av,aa⟩:=RN.getL (w:=w) g1 [] (k:=j) hL sD
      have ab:=aa.lenL
      unfold maxLen at ab
      refine Ae (p:=Aw vl j 1) (.inl Z) a9 AZ Z (av _<|AA.of_ext [] a1.drew) Aa<|Ad 1 Z<|Au (v:=a9) ((k).toNat) Bl BD Z Z aa.slL oM sD Aa ?_
      have an:=RN.getI (w:=w) (k:=(k).toNat) aa sD
      refine Ae (p:=Aw a9 ((k).toNat) 1) (.inl Z) (zI<|(L.getD j []).getD ((k).toNat) 0) AC Z (an.1 _<|AA.of_ext [] a1.drew) Aa ?_
      refine AB 64 [] [] [zI<|(Nz T.code L (List.replicate ipT.toNat 0) j).getD (((T.code.getD j Az.zero).num).toNat) 0,zI<|(L.getD j []).getD ((k).toNat) 0] Z Z TX Aa (zI<|md (((Nz T.code L (List.replicate ipT.toNat 0) j).getD (((T.code.getD j Az.zero).num).toNat) 0)+((L.getD j []).getD ((k).toNat) 0))) (fun wq=>FW wq _ _ (a0.rd1.getI sD).2 an.2) ?_
      refine Au (v:=v2) (((T.code.getD j Az.zero).num).toNat) Bl BD Z Z a0.isSl oM sD Aa ?_
      refine GG (v:=v2) (w:=w3.drew) I3 Z Z (Ei _) a0 sD Aa fun b1 b2 a3 aw ac ad=>?_
      replace a3:=a3.of_drew
      have ae:AF w b1:=a3.below a1 (fun c hc=>A8 (A7 _) (ac c hc).1) a1.size
      have ao:w3.heap.size≤b1.heap.size:=a3.size
      exact Aj<|Ab _ [0,0,0] Z<|Ad 1 Z<|AQ ((j+1:Nat):Int) Z Z (Be oM sD) Aa<|Ac 1 Z ⟨j+1,_,rfl,zR,⟨ae,(by have h:=ad.up o1;(try rw[show(k).toNat=0 from by omega]at h);first|(rw[PR oM];exact h)|(rw[PS oM];exact h)),oM⟩,zD⟩
    refine Ap false Z Z (A6 am) Aa<|Aj<|Ai Z<|A2<|Ab _ [0,0,0] Z<|Ad 1 Z<|AQ ((j+1:Nat):Int) Z Z (Be oM sD) Aa<|Ac 1 Z ?_
    exact⟨j+1,_,rfl,zR,⟨a1,(by have h:=a0.up o1;(try rw[show(k).toNat=0 from by omega]at h);first|(rw[PR oM];exact h)|(rw[PS oM];exact h)),oM⟩,zD⟩
  exact AE false Z Z (A6 al) Aa<|Aj<|Ai Z<|A4<|Ay<|Ay<|At<|ZN [0,0] Z<|Ac 2 Z<|A1<|Af [6] Z v2 Z ⟨v2,rfl,a1,(by have h:=a0.up o1;rwa [show j=T.code.length from by omega]at h)⟩
theorem IO (w:World)(vt:Value)(ipT:Int)(T:Tp)(oT:Sr)(va:Value)(a:Sr)(vw:Value)(ws:Sr)(vd:Value)(d:Sr)(K:Nat)(hT:RN [] (rP T4) w.heap vt ⟨ipT,T,oT⟩)(ha:Rd (B5 rI) w.heap va a)(hws:Rd (B5 rI) w.heap vw ws)(hd:Rd (B5 rI) w.heap vd d)(_hK:K≤1000000000000)(hip:ipT=(a.length:Int))(hR:Ob a T oT)(hw:ws.length=oT.length∧B9 ws=true)(hKe:K=1)(hda:d=a)(hI:H7 K (Cq a) T) :
    Calls Tryz.prog 139 #[vt,va,vw,vd,zI (K:Int)] w (fun e w'=>∃v0:Value,e=.returned (.tuple #[v0,zI 0])∧AF w w'∧RN [] (B5 (B5 rI)) w'.heap v0 (I2 T.code (BR K (Cq a) T.code) oT ws)∧BV v0):=by
  refine As [vt,va,vw,vd,zI (K:Int)] 43 Tryz.func139 Z Z sM ?_
  have a1:AF w w:=AF.refl w
  have ak:=ha.lenle
  have al:=hws.lenle
  have am:=hd.lenle
  have hK:=hR.k
  have hni:=hK.nb
  have hcl:=hK.cl
  have an:=hK.gl
  have hol:=hK.ol
  have hpos:=hK.pos
  have hna:=hR.n
  refine ZN [0,0] Z<|Ac 2 Z<|A0<|ZN [0,0,0,0,3,0] Z<|Ad 4 Z<|Am 182 [] [] [vt,va,vw,vd] Z Z Y9 Aa (Jj _ vt ipT T oT _ _ _ _ _ _ (hT.ext (AX Dk) a1) (ha.ext g1 a1) (hws.ext g1 a1) (hd.ext g1 a1) oM hR hw (by rw[hda];exact⟨rfl,hna⟩)) ?_
  rintro e1 w1 ⟨rfl,a4⟩
  refine⟨_,rfl,a4,?_⟩
  have ad:=a4.size
  have a5:=a1.trans a4
  refine Ac 1 Z<|ZN [0,0] Z<|Ad 1 Z ?_
  have ae:¬(0≠((0:Nat):Int)):=(fun h9=>h9 Z)
  refine AU false Z Z (A6 ae) Aa<|Aj<|Ai Z<|A2<|ZN [0,0,0,0,0,3,0,3,0,0,0,0,0] Z<|Ad 4 Z<|Bi ((K:Int)-1) Z Z (CT oM oM) Aa<|Am 184 [] [] [va,vd,zI ((K:Int)-1)] Z Z Yb Aa (LK _ _ _ _ _ _ (ha.ext g1 a5) (hd.ext g1 a5) oM oM oM) ?_
  rintro e3 w3 ⟨a2,rfl,a6,a0⟩
  refine⟨_,rfl,a6,?_⟩
  have af:=a6.size
  have ab:=a5.trans a6
  refine Ad 1 Z<|Am 183 [] [] [vt,a2,zI (K:Int)] Z Z Ya Aa (JV _ vt ipT T oT a2 (Cq a) K (hT.ext (AX Dk) ab) (RN.of_fr2 a0 fun b hb=>absurd hb z2) a0.cap oM oM (by rw[hKe];exact D3 hna) (by intro k hk;rw[EG];exact hR.k.form k hk) oM hI.nz) ?_
  rintro e4 w4 ⟨v4,rfl,a7,ac,a8⟩
  refine⟨_,rfl,a7,?_⟩
  have ag:=a7.size
  have a9:=ab.trans a7
  refine Ad 1 Z<|B7 (vs:=[v4,.bool true]) v4 Z Z Aa<|B7 (vs:=[v4,.bool true]) (.bool true) Z Z Aa<|Ac 2 Z<|A0<|ZN [0,0] Z<|Ad 1 Z<|Bd false Z Z Aa<|Aj<|Ai Z<|A2<|ZN [0,0,0,0,3,0,0] Z<|Ad 4 Z<|Am 185 [] [] [vt,v4,vw,zI (K:Int)] Z Z Yc Aa (Kl _ a.length [] vt ipT T oT v4 (BR K (Cq a) T.code) vw (ws) K (fun b hb=>absurd hb z2) (hT.ext (AX Dk) a9) ac a8 (hws.ext g1 a9) oM oM hI.regs (by rw[BS]) oM oM hR.k.out hw.2 hR.k.form) ?_
  rintro e5 w5 ⟨v5,rfl,a3,ah,aa⟩
  refine⟨_,rfl,a3,?_⟩
  have ai:=a3.size
  have aj:=a9.trans a3
  exact Ac 2 Z<|A1<|Af [10,11] Z (.tuple #[v5,zI ((0:Nat):Int)]) Z ⟨_,rfl,aj,ah,aa⟩
theorem LL (w:World)(dp:Nat)(vp:Value)(p:List Fn)(f:Int)(va:Value)(a:Sr)(vw:Value)(ws:Sr)(hp:RN [] (rP (K4 dp)) w.heap vp p)(_hf:Bk f)(ha:Rd (B5 rI) w.heap va a)(hws:Rd (B5 rI) w.heap vw ws)(hvp:FY p)(hf:0≤f∧f<(p.length:Int))(hl:(a.length:Int)=(p.getD f.toNat Fn.zero).params)(hna:B9 a=true)(hc:GB p f.toNat a=0)(hw:ws.length=(p.getD f.toNat Fn.zero).outs.length∧B9 ws=true) :
    Calls Tryz.prog 84 #[vp,zI f,va,vw] w (fun e w'=>∃v0:Value,e=.returned (v0)∧AF w w'∧Fr (Bo rI 2) w.heap.size w'.heap.size w'.heap v0 (RY p f.toNat a ws)):=by
  refine As [vp,zI f,va,vw] 25 Tryz.func84 Z Z sM ?_
  have aj:AF w w:=AF.refl w
  have bd:=ha.lenle
  have be:=hws.lenle
  have bf:=hvp.par f.toNat oM
  have bg:=hvp.outs f.toNat oM
  obtain⟨b6,T0,s0,a3,hRc,hTR,an⟩:=TR hvp (f:=f.toNat) oM hl hna hc
  have hen:=hRc.en.1
  have hcl:=hTR.k.cl
  have hni:=hTR.k.nb
  have hsA:=an.adj hTR.e (ws:=ws)
  refine ZO Z<|ZN [0,0,0,3,3,4] Z<|Ad 3 Z<|Am 138 [] [] [vp,zI f,va] Z Z XS Aa (JU _ dp vp p f va a (hp.ext (AX<|AR dp) aj) _hf (RN.of<|ha.ext g1 aj) b6 T0 s0 hvp oM oM sD a3) ?_
  rintro e1 w1 ⟨b8,b9,bc,rfl,ak,aw,ax,ay⟩
  refine⟨_,rfl,ak,?_⟩
  have az:=ak.size
  have b0:=aj.trans ak
  have a7:RN [] (Cj 4 Jy) w1.heap b8 T0.code:=aw.imp fun F h=>⟨h.1,fun b _ h9=>by cases h9⟩
  have a8:RN [] (Cj 2 Jz) w1.heap b9 T0.grd:=ax.imp fun F h=>⟨h.1,fun b _ h9=>by cases h9⟩
  have a9:RN [] (B5 rI) w1.heap bc b6:=ay.imp fun F h=>⟨h.1,fun b _ h9=>by cases h9⟩
  refine Br (z:=.agg #[zI 0,zN,zN,zN]) U1 Aa fun w2 a2 ba al=>?_
  have b1:=a2.size
  have ao:=b0.trans a2
  have b2:=a7.ext (Al AW) a2
  have b3:=a8.ext (Al B6) a2
  have b4:=a9.ext g1 a2
  replace al:BX w2.heap w1.heap.size [zI 0,zN,zN,zN]:=al
  refine Ce (vs:=[zI (a.length:Int),b8,b9,bc]) E8 Z Z (by intro u hu;simp only[ze,z2,or_false]at hu;rcases hu with rfl|rfl|rfl|rfl <;> first|exact⟨rfl,rfl⟩|exact Bn b2.isSl|exact Bn b3.isSl|exact Bn b4.slL) al Z Z Aa fun w6 aa bb ah=>?_
  replace ah:BX w6.heap w1.heap.size [zI (a.length:Int),b8,b9,bc]:=ah
  have ai:AF w w6:=aa.below ao (fun _ h=>zE h) ao.size
  have b5:w2.heap.size≤w6.heap.size:=aa.size
  have ap:=a7.ext (Al AW)<|aa.below a2 (fun _ h=>zE h) a2.size
  have aq:=a8.ext (Al B6)<|aa.below a2 (fun _ h=>zE h) a2.size
  have ar:=a9.ext g1<|aa.below a2 (fun _ h=>zE h) a2.size
  refine Aj<|ZN [0,0,0,3,0,0,0,0,0] Z<|Ad 3 Z<|Am 139 [] [] [zP w1.heap.size,va,vw,va,zI ((1:Nat):Int)] Z Z XT Aa (IO _ (zP w1.heap.size) (a.length:Int) T0 b6 va (a) vw (ws) va (a) 1 (RN.box (S:=[]) ah (RTp.mk' (by unfold Bk;omega) ap aq ar) fun h9=>by cases h9) (ha.ext g1 ai) (hws.ext g1 ai) (ha.ext g1 ai) oM (by rfl) hTR (by exact⟨zO,hw.2⟩) (by rfl) (by rfl) an) ?_
  rintro bh bi ⟨b7,rfl,a0,ab,ac⟩
  refine⟨_,rfl,a0,?_⟩
  have au:=a0.size
  have ad:=ai.trans a0
  have a5:=ah.ext a0
  have ae:=ap.ext (Al AW) a0
  have af:=aq.ext (Al B6) a0
  have ag:=ar.ext g1 a0
  refine Ad 1 Z<|B7 (vs:=[b7,zI 0]) b7 Z Z Aa<|B7 (vs:=[b7,zI 0]) (zI 0) Z Z Aa<|Ac 2 Z<|ZN [0,3,0] Z<|Ad 1 Z<|Am 140 [] [] [zP w1.heap.size,b7,zI ((0:Nat):Int)] Z Z XU Aa (JZ _ (zP w1.heap.size) (a.length:Int) T0 b6 b7 (I2 T0.code (BR 1 (Cq a) T0.code) b6 ws) _ (RN.box (S:=[]) a5 (RTp.mk' (by unfold Bk;omega) ae af ag) fun h9=>by cases h9) ab ac oM (by rfl) oM (by rw[Oa,BS]) (by intro k hk;have h9:=hsA k hk;exact⟨by have:=h9.1;omega,h9.2⟩) oM (by rw[Int.toNat_natCast];exact hTR.k.form)) ?_
  rintro bj bk ⟨a4,rfl,a1,a6⟩
  refine⟨_,rfl,a1,?_⟩
  have av:=a1.size
  have am:=ad.trans a1
  exact Ac 1 Z<|A1<|Af [8] Z a4 Z ⟨a4,rfl,am,(by have h:=(a6.up o1).low ad.size;rw[Int.toNat_natCast]at h;rw[VL (TT a3) hTR.k.form];exact h)⟩
theorem HJ {p:Prop}(h:p:=by first|exact AS (Zg (DF (by assumption)))|exact AS (Zh (Ds (by assumption)) (DF (by assumption)))|exact AS (Sd Z Z (Ds (by assumption)) (Ds (by assumption)) (.inl (DF (by assumption))))|exact AS (Zi hok hrn hin oM (Ds ‹(!B9 a)=false›) oM (Ds ‹(!B9 b)=false›))|exact AS (Sd Z Z hok hrn (.inr (by rw[A6 (show ¬(((a.length:Nat):Int)=(p.getD f.toNat Fn.zero).params) by omega),Bool.false_and,Bool.false_and])))|exact AS (Sd Z Z hok hrn (.inr (by rw[show B9 a=false from DF (by assumption),Bool.and_false,Bool.false_and])))|exact AS (Sd Z Z hok hrn (.inr (by rw[A6 (show ¬(((b.length:Nat):Int)=(p.getD f.toNat Fn.zero).params) by omega),Bool.false_and,Bool.and_false])))|exact AS (Sd Z Z hok hrn (.inr (by rw[show B9 b=false from DF (by assumption),Bool.and_false,Bool.and_false])))):p:=h
theorem Jk (w:World)(dp:Nat)(vp:Value)(p:List Fn)(f:Int)(va:Value)(a:Sr)(vb:Value)(b:Sr)(n:Int)(hp:RN [] (rP (K4 dp)) w.heap vp p)(_hf:Bk f)(ha:Rd (B5 rI) w.heap va a)(hb:Rd (B5 rI) w.heap vb b)(_hn:Bk n)(hz:Qj p) :
    Calls Tryz.prog 81 #[vp,zI f,va,vb,zI n] w (fun e w'=>e=.returned (zI (EK p f a b n))∧AF w w'):=by
  refine As [vp,zI f,va,vb,zI n] 52 Tryz.func81 Z Z sM ?_
  have ae:AF w w:=AF.refl w
  have aw:=ha.lenle
  have ax:=hb.lenle
  refine ZO Z<|A0<|ZN [0,3,0] Z<|Ad 1 Z<|Am 91 [] [] [vp] Z Z ZC Aa (Nm _ dp vp (p) (hp.ext (AX<|AR dp) ae) hz) ?_
  rintro e1 w1 ⟨rfl,a8⟩
  refine⟨_,rfl,a8,?_⟩
  have am:=a8.size
  have a9:=ae.trans a8
  refine Bd (!(H2 p)) Z Z Aa<|Aj ?_
  cases af:(!(H2 p))
  ·
    refine Ai (by first|rfl|exact zW af)<|A2<|A0<|ZN [0,0,3,0,0,0,0,0,0] Z<|Ad 2 Z<|Am 137 [] [] [vp,zI f] Z Z XR Aa (Kh _ dp vp (p) _ (hp.ext (AX<|AR dp) a9) _hf hz) ?_
    rintro e3 w3 ⟨rfl,aa⟩
    refine⟨_,rfl,aa,?_⟩
    have an:=aa.size
    have a0:=a9.trans aa
    refine Bd (!(MS p f)) Z Z Aa<|Ad 1 Z ?_
    cases au:(!(MS p f))
    ·
      refine Ad 1 Z<|AB 94 [] [] [zI n,zI ((0:Nat):Int),zI ((40:Nat):Int)] Z Z E7 (Ag (e:=19) Z Z Z) (.bool (decide (((0:Nat):Int)≤n) && decide (n≤((40:Nat):Int)))) (fun wq=>B3 wq _ _ _ _hn oM oM)<|Bd (!(decide (((0:Nat):Int)≤n) && decide (n≤((40:Nat):Int)))) Z Z (Ag (e:=19) Z Z Z)<|Ac 1 Z ?_
      cases ag:(!(decide (((0:Nat):Int)≤n) && decide (n≤((40:Nat):Int))))
      ·
        refine Ai (by first|rfl|exact zW ag)<|A2<|ZN [0,0,0,2,0,0,0,2,0] Z ?_
        have hok:=(Ds (by assumption):H2 p=true)
        have hrn:=(Ds (by assumption):MS p f=true)
        have hin:=(Ds (by assumption):(decide (((0:Nat):Int)≤n) && decide (n≤((40:Nat):Int)))=true)
        have hrr:=Kt.1 hrn
        refine Ad 1 Z<|AG (hp.isPtr) Z Aa ?_
        obtain⟨cs7,ao,ah⟩:=RN.at (AR _) hp
        obtain⟨a7,rfl,ab⟩:=RPr.of ao
        have ac:=ab.lenle
        unfold maxLen at ac
        refine AD (p:=vp) 0 BA Z (ah _<|AA.of_ext [] a0) Aa<|Ae (p:=An vp 0) (.inr Z) a7 C5 Z ((ah _<|AA.of_ext [] a0).ld (i:=0) (by simp[DQ,DU])) Aa<|Ad 1 Z<|Au (v:=a7) ((f).toNat) Fq C9 Z Z ab.isSl oM sD Aa ?_
        obtain⟨cs8,ap,ai⟩:=ab.get (Ax dp) Fn.zero (k:=(f).toNat) sD
        obtain⟨av,rfl,aq⟩:=RF.of ap
        have ad:=aq.rn.lenle
        unfold maxLen at ad
        refine AD (p:=Aw a7 ((f).toNat) 3) 1 Ct Z (ai _<|AA.of_ext [] a0) Aa<|Ae (p:=An (Aw a7 ((f).toNat) 3) 1) (.inr Z) (zI<|(p.getD ((f).toNat) Fn.zero).params) AC Z ((ai _<|AA.of_ext [] a0).ld (i:=1) (by simp[DQ,DU])) Aa<|Ac 1 Z<|A0<|ZN [0,0,0,0,0,0,3,0,0,0,0,0,0,0,0,0,0,3,0,0] Z<|Ad 1 Z<|AP (v:=va) Bl Z ha.isSl Aa<|Ad 1 Z ?_
        by_cases aj:(a.length:Int)≠(p.getD ((f).toNat) Fn.zero).params
        ·
          refine AU true Z Z (A5 aj) Aa<|Ac 16 Z<|Ah Z<|ZO Z<|A1<|Ao ?_
          exact Af [10] Z (zI ((2:Nat):Int)) Z ⟨HJ,a0⟩
        refine AU false Z Z (A6 aj) Aa<|Ad 2 Z<|Am 113 [] [] [va] Z Z Of (Ag (e:=36) Z Z Z) (CD _ _ _<|ha.ext g1 a0) ?_
        rintro ay az ⟨rfl,a2⟩
        refine⟨_,rfl,a2,?_⟩
        have ak:=a2.size
        have a1:=a0.trans a2
        refine Bd (!(B9 a)) Z Z (Ag (e:=36) Z Z Z)<|Ad 2 Z ?_
        cases ar:(!(B9 a))
        ·
          refine Ad 1 Z<|AP (v:=vb) Bl Z hb.isSl (Ag (e:=41) Z Z Z)<|Ad 1 Z ?_
          by_cases a4:(b.length:Int)≠(p.getD ((f).toNat) Fn.zero).params
          ·
            refine AU true Z Z (A5 a4) (Ag (e:=41) Z Z Z)<|Ac 6 Z<|Ah Z<|ZO Z<|A1<|Ao ?_
            exact Af [10] Z (zI ((2:Nat):Int)) Z ⟨HJ,a1⟩
          refine AU false Z Z (A6 a4) (Ag (e:=41) Z Z Z)<|Ad 3 Z<|Am 113 [] [] [vb] Z Z Of (Ag (e:=47) Z Z Z) (CD _ _ _<|hb.ext g1 a1) ?_
          rintro b0 b1 ⟨rfl,a3⟩
          refine⟨_,rfl,a3,?_⟩
          have al:=a3.size
          have a5:=a1.trans a3
          refine Bd (!(B9 b)) Z Z (Ag (e:=47) Z Z Z)<|Ac 1 Z ?_
          cases a6:(!(B9 b))
          ·
            refine Ai (by first|rfl|exact zW a6)<|A2<|ZO Z<|A1 ?_
            exact Af [10] Z (zI ((0:Nat):Int)) Z ⟨HJ,a5⟩
          refine Ah (by first|rfl|exact zW a6)<|ZO Z<|A1<|Ao ?_
          exact Af [10] Z (zI ((2:Nat):Int)) Z ⟨HJ,a5⟩
        refine Ac 10 Z<|Ah Z<|ZO Z<|A1<|Ao ?_
        exact Af [10] Z (zI ((2:Nat):Int)) Z ⟨HJ,a1⟩
      refine Ah (by first|rfl|exact zW ag)<|ZO Z<|A1<|Ao ?_
      exact Af [10] Z (zI ((2:Nat):Int)) Z ⟨HJ,a0⟩
    refine Ac 4 Z<|Ah Z<|ZO Z<|A1<|Ao ?_
    exact Af [10] Z (zI ((2:Nat):Int)) Z ⟨HJ,a0⟩
  refine Ah (by first|rfl|exact zW af)<|ZO Z<|A1<|Ao ?_
  exact Af [10] Z (zI ((1:Nat):Int)) Z ⟨HJ,a9⟩
theorem SW {p:Prop}(h:p:=by first|(rw[hgc];omega)|(rw[E6 hg0];exact ‹Qu p f.toNat a n.toNat›.code)|(rw[Dz oM];omega)):p:=h
theorem SX {p:Prop}(h:p:=by first|(rw[hgc];done)|(rw[hgc];rfl)|(rw[E6 hg0];done)|(rw[Dz oM];done)):p:=h
theorem HK (w:World)(dp:Nat)(vp:Value)(p:List Fn)(f:Int)(va:Value)(a:Sr)(vw:Value)(ws:Sr)(n:Int)(hp:RP [] dp w.heap vp p)(_hf:Bk f)(ha:Rd (B5 rI) w.heap va a)(hws:Rd (B5 rI) w.heap vw ws)(_hn:Bk n)(hz:Qj p) :
    Calls Tryz.prog 25 #[(.agg #[vp]),zI f,va,vw,zI n] w (fun e w'=>∃v0:Value,e=.returned (.tuple #[v0,zI (Fk p f a ws n)])∧AF w w'∧Fr (Bo rI 2) w.heap.size w'.heap.size w'.heap v0 (Ek p f a ws n)∧(0≤Fk p f a ws n∧Fk p f a ws n≤9)):=by
  refine As [.agg #[vp],zI f,va,vw,zI n] 53 Tryz.func25 Z Z sM ?_
  have b4:AF w w:=AF.refl w
  have au:=hp.lenle
  unfold maxLen at au
  have bs:=ha.lenle
  have bt:=hws.lenle
  refine ZN [3,0,0] Z (Bj (cs:=#[vp]) Z Aa fun w1 av bh ar=>?_)
  have aw:=av.size
  have ai:=b4.trans av
  replace ar:BX w1.heap w.heap.size [vp]:=ar
  refine Ac 2 Z<|A0<|ZN [0,0,0,0,3,0] Z<|Ad 4 Z<|Am 81 [] [] [zP w.heap.size,zI f,va,vw,zI n] Z Z Zv Aa (Jk _ dp (zP w.heap.size) (p) _ _ _ _ _ _ (RN.box ar (RP.mk'<|hp.ext (Al<|Ax dp) ai) sM) _hf (ha.ext g1 ai) (hws.ext g1 ai) _hn hz) ?_
  rintro e2 w2 ⟨rfl,aj⟩
  refine⟨_,rfl,aj,?_⟩
  have bi:=aj.size
  have ac:=ai.trans aj
  have a9:=ar.ext aj
  refine Ac 1 Z<|ZN [0,0] Z ?_
  have hdr:=Jd (p:=p) (f:=f) (a:=a) (ws:=ws) (n:=n)
  refine Ad 1 Z ?_
  by_cases b5:EK p f a ws n≠((0:Nat):Int)
  ·
    refine AU true Z Z (A5 b5) Aa<|Aj<|Ah Z<|ZN [3,0,0,0] Z (Cp (rI) AK Bl BD Aa fun v4 w4 b6 bq ax=>?_)
    have bj:=b6.size
    have bk:=ac.trans b6
    exact Ac 3 Z<|A1<|Ao<|Af [10,11] Z (.tuple #[v4,zI<|EK p f a ws n]) Z ⟨v4,SX,bk,(by first|(have h:=(ax.up o1).low ac.size;rw[Io hgc,hLg,show(i+1).toNat=0 from by omega];exact h)|(rw[DA (by rw[E6 hg0];omega)];exact(ax.up o1).low ac.size)|(rw[DA (by rw[Dz oM];omega)];exact(ax.up o1).low ac.size)),SW⟩
  refine AU false Z Z (A6 b5) Aa<|Aj<|Ai Z<|A2<|ZN [0,0,0,3,0,0,0,0,0] Z ?_
  have hg0:EK p f a ws n=0:=by omega
  have bl:=N1 hg0
  have ag:=PP bl.1
  have hvp:=HS ag.1
  refine Ad 3 Z<|Am 82 [] [] [zP w.heap.size,zI f,va,zI n] Z Z Zw Aa (JT _ dp (zP w.heap.size) (p) _ _ _ _ (RN.box a9 (RP.mk'<|hp.ext (Al<|Ax dp) ac) sM) _hf (ha.ext g1 ac) _hn hvp oM oM ag.2.2.2.1.2 oM oM) ?_
  rintro e5 w5 ⟨a1,rfl,ak,aa,b7⟩
  refine⟨_,rfl,ak,?_⟩
  have bm:=ak.size
  have a7:=ac.trans ak
  have al:=a9.ext ak
  refine Ad 1 Z<|B7 (vs:=[a1,zI<|FM p f.toNat a n.toNat]) a1 Z Z Aa<|B7 (vs:=[a1,zI<|FM p f.toNat a n.toNat]) (zI<|FM p f.toNat a n.toNat) Z Z Aa<|Ac 2 Z<|A0<|ZN [0,0] Z<|Ad 1 Z ?_
  by_cases b8:FM p f.toNat a n.toNat≠((0:Nat):Int)
  ·
    refine AU true Z Z (A5 b8) Aa<|Aj<|Ah Z<|ZN [3,0,0,0] Z (Cp (rI) AK Bl BD Aa fun v7 w7 b9 br ay=>?_)
    have bn:=b9.size
    have bo:=a7.trans b9
    exact Ac 3 Z<|A1<|Ao<|Af [10,11] Z (.tuple #[v7,zI<|FM p f.toNat a n.toNat]) Z ⟨v7,SX,bo,(by first|(have h:=(ay.up o1).low a7.size;rw[Io hgc,hLg,show(i+1).toNat=0 from by omega];exact h)|(rw[DA (by rw[E6 hg0];omega)];exact(ay.up o1).low a7.size)|(rw[DA (by rw[Dz oM];omega)];exact(ay.up o1).low a7.size)),SW⟩
  refine AU false Z Z (A6 b8) Aa<|Aj<|Ai Z<|A2<|ZN [0,3,0] Z ?_
  have hpar:=hvp.par f.toNat oM
  have hrk:FM p f.toNat a n.toNat=0:=by omega
  have hCh:PM p f.toNat a n.toNat:=⟨hvp,zO,ag.2.2.1.2,ag.2.2.2.1.1,ag.2.2.2.1.2,hrk⟩
  have hgc:Fk p f a ws n=0:=by rw[E6 hg0];exact hrk
  have az:Fr (Bo (Bo rI 2) 27) w2.heap.size w5.heap.size w5.heap a1 (Du (n.toNat+1) (Dp p f.toNat a)):=by have h:=aa;rwa [L5 hrk]at h
  have htl:(Du (n.toNat+1) (Dp p f.toNat a)).length=n.toNat+1:=by simp[Du]
  refine Ad 1 Z<|Am 83 [] [] [vw] Z Z Lf Aa (BP _ _ _ (hws.ext g1 a7) oM) ?_
  rintro e9 w9 ⟨b0,rfl,ah,ab⟩
  refine⟨_,rfl,ah,?_⟩
  have b1:=ah.size
  have ba:=a7.trans ah
  have am:=al.ext ah
  have ad:=az.ext (o2) ah
  refine Ac 1 Z<|A0<|ZN [0,0,0] Z<|Ad 1 Z<|Bi (n-1) Z Z (CT oM oM) Aa<|Ac 1 Z<|A3 ?_
  refine AT (S:=Int×Value×Sr) (fun⟨i,vo,L⟩=>([(15,vo),(16,zI i),(1,zI f),(5,zP w.heap.size),(13,a1)])) (fun⟨i,vo,L⟩ W=>AF w W∧Fr (Bo rI 2) w5.heap.size W.heap.size W.heap vo L∧Fr (Bo (Bo rI 2) 27) w2.heap.size w5.heap.size W.heap a1 (Du (n.toNat+1)<|Dp p f.toNat a)∧BX W.heap w.heap.size [vp]∧(-1≤i∧i<n)∧((L.length:Int)=(p.getD f.toNat Fn.zero).params)∧B9 L=true∧SZ p f.toNat a n.toNat ws=SZ p f.toNat a (i+1).toNat L∧w.heap.size<w5.heap.size∧w5.heap.size≤W.heap.size) (fun⟨i,vo,L⟩=>(i+1).toNat) (n-1,b0,ws) ⟨rfl,rfl,rfl,rfl,rfl,trivial⟩ ⟨ba,ab.up o1,ad,am,oM,oM,ag.2.2.2.2.2,(by rw[show(n-1+1).toNat=n.toNat from by omega]),oM,oM⟩ ?_
  clear b4 bh av aw ai aj aa ak ab ah b1 ba
  rintro⟨i,vo,L⟩ ρ11 bu ⟨a8,a0,a2,a3,b2,hLl,hLn,hLg,bb,bc⟩
  have bd:w.heap.size≤bu.heap.size:=a8.size
  have bp:=a3.lt
  refine A0<|ZN [0,0] Z<|Ad 1 Z ?_
  by_cases an:((0:Nat):Int)≤i
  ·
    refine CU true Z Z (A5 an) Aa<|Aj<|Ah Z<|A2<|A0<|A3<|Ab _ [0,0,0,0,2,0,3,0] Z ?_
    have hti:=Ck (f:=Dp p f.toNat a) (n:=n.toNat+1) (k:=i.toNat) [] oM
    have his:=(hCh.low (k:=i.toNat) oM).st
    have hin:=hCh.nx (k:=i.toNat) oM
    refine Ad 3 Z<|Au (v:=a1) ((i).toNat) Bs AV Z Z a2.isSl oM sD Aa ?_
    obtain⟨ao,ap,ae⟩:=a2.rd2.get (k:=(i).toNat) [] sD
    have be:=ae.lenle
    refine Ae (p:=Aw a1 ((i).toNat) 1) (.inr Z) ao AZ Z ap Aa<|Ad 1 Z<|Am 84 [] [] [zP w.heap.size,zI f,ao,vo] Z Z Zx Aa (LL _ dp (zP w.heap.size) (p) _ _ _ _ _ (RN.box a3 (RP.mk'<|hp.ext (Al<|Ax dp) a8) sM) _hf ae a0.rd1 hvp oM (by rw[hti];omega) (by rw[hti];exact his.2) (by rw[hti];exact hin) (by exact⟨zO,hLn⟩)) ?_
    rintro bv bw ⟨aq,rfl,a4,af⟩
    refine⟨_,rfl,a4,?_⟩
    have bf:=a4.size
    have b3:=a8.trans a4
    have a5:=a2.ext (o2) a4
    have a6:=a3.ext a4
    have bg:=Bc a4 ap
    exact Ac 1 Z<|Ab _ [0,0,0] Z<|Ad 1 Z<|Bi (i-1) Z Z (CT oM oM) Aa<|Ac 1 Z ⟨(i-1,aq,RY p f.toNat ((Du (n.toNat+1)<|Dp p f.toNat a).getD ((i).toNat) []) L),_,rfl,zR,⟨b3,(af.up o1).low oM,a5,a6,oM,(by rw[Kw,hti];omega),(by rw[hti];exact(hCh.rc (k:=i.toNat) oM).elim fun _ h=>h.elim fun _ h=>h.bkR_num),(by rw[show(i-1+1).toNat=i.toNat from by omega,hLg,show(i+1).toNat=i.toNat+1 from by omega,hti];rfl),oM,oM⟩,zD⟩
  exact CU false Z Z (A6 an) Aa<|Aj<|Ai Z<|A4<|Ay<|Ay<|At<|ZN [0,0,0] Z<|Ac 3 Z<|A1<|Af [10,11] Z (.tuple #[vo,zI ((0:Nat):Int)]) Z ⟨vo,SX,a8,(by first|(have h:=(a0.up o1).low a7.size;rw[Io hgc,hLg,show(i+1).toNat=0 from by omega];exact h)|(rw[DA (by rw[E6 hg0];omega)];exact(a0.up o1).low a7.size)|(rw[DA (by rw[Dz oM];omega)];exact(a0.up o1).low a7.size)),SW⟩
theorem VZ {p:List Fn}{f n:Int}{a ws:List Int}:(Ek p f a ws n).length≤12:=by
  by_cases h:Fk p f a ws n=0
  · have hA:EK p f a ws n=0:=by
      by_cases h1:EK p f a ws n=0
      · exact h1
      · rw[Dz h1]at h;exact absurd h h1
    have hq1:=N1 hA
    have hq0:=PP hq1.1
    have hv:=HS hq0.1
    have hp:=hv.par f.toNat zO
    have hk:FM p f.toNat a n.toNat=0:=by rw[E6 hA]at h;exact h
    have hC:PM p f.toNat a n.toNat:=⟨hv,zO,hq0.2.2.1.2,hq0.2.2.2.1.1,hq0.2.2.2.1.2,hk⟩
    have h3:=hq0.2.2.2.1.1
    have h4:=hq0.2.2.2.2.1
    rw[Io h,PN hC (by omega)];omega
  · rw[DA h];exact Nat.zero_le _
theorem Jl {p:Prop}(h:p:=by first|rfl|(exfalso;omega)|simp_all):p:=h
theorem Fm (w:World)(dp:Nat)(vp:Value)(p:List Fn)(f:Int)(va:Value)(a:Sr)(vw:Value)(ws:Sr)(n:Int)(hp:RP [] dp w.heap vp p)(_hf:Bk f)(ha:Rd (B5 rI) w.heap va a)(hws:Rd (B5 rI) w.heap vw ws)(_hn:Bk n)(hnm:∀k,k<p.length→(p.getD k Fn.zero).name.size≤9223372036854775807) :
    Calls Tryz.prog 5 #[(.agg #[vp]),zI f,va,vw,zI n] w (fun e w'=>e=.returned (.bool true)∧AF w w'):=by
  refine As [.agg #[vp],zI f,va,vw,zI n] 148 Tryz.func5 Z Z sM ?_
  have o7:AF w w:=AF.refl w
  have c3:=hp.lenle
  unfold maxLen at c3
  have cl:=ha.lenle
  have cm:=hws.lenle
  refine ZN [3,0] Z (Bj (cs:=#[vp]) Z Aa fun w1 n9 oq kr=>?_)
  have o8:=n9.size
  have ks:=o7.trans n9
  replace kr:BX w1.heap w.heap.size [vp]:=kr
  refine Ac 1 Z<|A0<|ZN [0,0,0] Z<|Ad 1 Z<|AP (v:=va) Bl Z ha.isSl Aa ?_
  by_cases na:((1048576:Nat):Int)<(a.length:Int)
  ·
    exact BU true Z Z (A5 na) Aa<|Aj<|Ah Z<|ZO Z<|A1<|Ao<|Af [10] Z (.bool true) Z ⟨Jl,ks⟩
  refine BU false Z Z (A6 na) Aa<|Aj<|Ai Z<|A2<|A0<|ZN [0,0,0] Z<|Ad 1 Z<|AP (v:=vw) Bl Z hws.isSl Aa ?_
  by_cases nb:((1048576:Nat):Int)<(ws.length:Int)
  ·
    exact BU true Z Z (A5 nb) Aa<|Aj<|Ah Z<|ZO Z<|A1<|Ao<|Af [10] Z (.bool true) Z ⟨Jl,ks⟩
  refine BU false Z Z (A6 nb) Aa<|Aj<|Ai Z<|A2<|ZO Z<|ZN [2,0,3,0] Z<|AJ (p:=zP w.heap.size) (.inr Z) [vp] Ol Z (fun bz az=>LD.of_box<|BX.ext (w:=w1) kr az) Z Aa<|Ad 1 Z<|Am 31 [] [] [.agg #[vp],zI ((1048576:Nat):Int)] Z Z Zm Aa (JF _ dp vp (p) _ (hp.ext (Al<|Ax dp) ks) oM oM hnm) ?_
  rintro e4 w4 ⟨rfl,kt⟩
  refine⟨_,rfl,kt,?_⟩
  have o9:=kt.size
  have l6:=ks.trans kt
  have j4:=kr.ext kt
  refine Ac 1 Z<|A0<|ZN [0,0] Z<|Ad 1 Z ?_
  by_cases nc:J8 (MV p) ((1048576:Nat):Int)<((0:Nat):Int)
  ·
    exact AE true Z Z (A5 nc) Aa<|Aj<|Ah Z<|ZO Z<|A1<|Ao<|Af [10] Z (.bool true) Z ⟨Jl,l6⟩
  refine AE false Z Z (A6 nc) Aa<|Aj<|Ai Z<|A2<|ZN [2,3,0,0,3,0,3,0,3,0,0,0,0,0] Z ?_
  have hzv:=Ku (t:=MV p) (x:=((1048576:Nat):Int)) oM
  have oa:MV p≤1048576:=by omega
  have hz:=VF oa
  refine AJ (p:=zP w.heap.size) (.inr Z) [vp] Ol Z (fun bz az=>LD.of_box<|BX.ext (w:=w4) j4 az) Z Aa<|Am 32 [] [] [.agg #[vp]] Z Z TU Aa (Dr _ dp vp (p) (hp.ext (Al<|Ax dp) l6) oM) ?_
  rintro e6 w6 ⟨v6,rfl,ku,ob⟩
  refine⟨_,rfl,ku,?_⟩
  have oc:=ku.size
  have nd:=l6.trans ku
  have jt:=j4.ext ku
  refine Ad 2 Z<|Am 33 [] [] [va] Z Z Oe Aa (C1 _ _ _ (ha.ext g1 nd) oM) ?_
  rintro e7 w7 ⟨l7,rfl,ju,jv⟩
  refine⟨_,rfl,ju,?_⟩
  have od:=ju.size
  have ne:=nd.trans ju
  have jw:=jt.ext ju
  have jx:=ob.ext (Av<|AN 127 dp) ju
  refine Ad 1 Z<|Am 33 [] [] [vw] Z Z Oe Aa (C1 _ _ _ (hws.ext g1 ne) oM) ?_
  rintro e8 w8 ⟨l8,rfl,js,j5⟩
  refine⟨_,rfl,js,?_⟩
  have oe:=js.size
  have og:=ne.trans js
  have jy:=jw.ext js
  have j6:=jx.ext (Av<|AN 127 dp) js
  have b0:=jv.ext (o1) js
  refine Ad 1 Z<|Am 25 [] [] [.agg #[v6],zI f,l7,l8,zI n] Z Z Zl Aa (HK _ dp v6 (p) _ _ _ _ _ _ (RN.of_frF j6 fun b hb=>by cases hb) _hf b0.rd1 j5.rd1 _hn hz) ?_
  rintro e9 w9 ⟨be,rfl,j8,jz,nf⟩
  refine⟨_,rfl,j8,?_⟩
  have oh:=j8.size
  have ng:=og.trans j8
  have j7:=jy.ext j8
  refine Ad 1 Z<|B7 (vs:=[be,zI<|Fk p f a ws n]) be Z Z Aa<|B7 (vs:=[be,zI<|Fk p f a ws n]) (zI<|Fk p f a ws n) Z Z Aa<|Ac 2 Z<|ZN [2,3,3,4] Z<|AJ (p:=zP w.heap.size) (.inr Z) [vp] Ol Z (fun bz az=>LD.of_box<|BX.ext (w:=w9) j7 az) Z Aa<|Am 32 [] [] [.agg #[vp]] Z Z TU Aa (Dr _ dp vp (p) (hp.ext (Al<|Ax dp) ng) oM) ?_
  rintro d9 c4 ⟨bv,rfl,aw,l9⟩
  refine⟨_,rfl,aw,?_⟩
  have nh:=aw.size
  have la:=ng.trans aw
  have c6:=j7.ext aw
  have c9:=jz.ext (o1) aw
  have oi:=c6.lt
  refine Br (z:=.agg #[zN]) VP Aa fun cr ax oj ja=>?_
  have ni:=ax.size
  have k1:=la.trans ax
  have jb:=c6.ext ax
  have cc:=c9.ext (o1) ax
  have b1:=l9.ext (Av<|AN 127 dp) ax
  replace ja:BX cr.heap c4.heap.size [zN]:=ja
  refine Ce (vs:=[bv]) Df Z Z (by intro u hu;simp only[ze,z2,or_false]at hu;rcases hu with rfl <;> first|exact⟨rfl,rfl⟩|exact Bn b1.isSlS) ja Z Z Aa fun c7 ay ok jd=>?_
  replace jd:BX c7.heap c4.heap.size [bv]:=jd
  have je:AF w c7:=ay.below k1 (fun _ h=>zE h) k1.size
  have nj:cr.heap.size≤c7.heap.size:=ay.size
  have lb:=jb.chg ay (zB ·)
  have lf:=cc.chg (o1) ay fun _ h=>zA h
  have lg:=b1.chg (Av<|AN 127 dp) ay fun _ h=>zA h
  refine Aj<|ZN [0,3,0] Z<|Ad 1 Z<|Am 33 [] [] [va] Z Z Oe Aa (C1 _ _ _ (ha.ext g1 je) oM) ?_
  rintro da ct ⟨b2,rfl,aq,jf⟩
  refine⟨_,rfl,aq,?_⟩
  have nk:=aq.size
  have jg:=je.trans aq
  have cj:=lb.ext aq
  have cn:=lf.ext (o1) aq
  have co:=lg.ext (Av<|AN 127 dp) aq
  have cp:=jd.ext aq
  refine Ac 1 Z<|ZN [0,3,0] Z<|Ad 1 Z<|Am 33 [] [] [vw] Z Z Oe Aa (C1 _ _ _ (hws.ext g1 jg) oM) ?_
  rintro db ca ⟨b3,rfl,am,cd⟩
  refine⟨_,rfl,am,?_⟩
  have nl:=am.size
  have k2:=jg.trans am
  have cq:=cj.ext am
  have cv:=cn.ext (o1) am
  have b4:=co.ext (Av<|AN 127 dp) am
  have b5:=cp.ext am
  have ar:=jf.ext (o1) am
  refine Ac 1 Z<|ZN [2,0,0,0,0,3,0,0,0,0,0] Z<|AJ (p:=zP c4.heap.size) (.inr Z) [bv] Df Z (fun bz az=>LD.of_box<|BX.ext (w:=ca) b5 az) Z Aa<|Ad 4 Z<|Am 24 [] [] [.agg #[bv],zI f,b2,b3,zI n] Z Z Xz Aa (EN _ dp bv (p) _ _ _ _ _ _ (RN.of_frF b4 fun b hb=>by cases hb) _hf ar.rd1 cd.rd1 _hn hz) ?_
  rintro df cz ⟨ab,rfl,al,ce,lh⟩
  refine⟨_,rfl,al,?_⟩
  have nm:=al.size
  have li:=k2.trans al
  have cw:=cq.ext al
  have b6:=cv.ext (o1) al
  have d0:=b4.ext (Av<|AN 127 dp) al
  have d1:=b5.ext al
  have bf:=ar.ext (o1) al
  have bg:=cd.ext (o1) al
  refine Ad 1 Z<|B7 (vs:=[ab,zI<|Fk p f a ws n]) ab Z Z Aa<|B7 (vs:=[ab,zI<|Fk p f a ws n]) (zI<|Fk p f a ws n) Z Z Aa<|Ac 2 Z<|A0<|ZN [0,0,3,0,0,0,0,0,0] Z<|Ad 2 Z<|Am 34 [] [] [ab,be] Z Z Se Aa (D5 _ _ _ _ _ ce.rd1 b6.rd1) ?_
  rintro dg cb ⟨rfl,ag⟩
  refine⟨_,rfl,ag,?_⟩
  have nn:=ag.size
  have jh:=li.trans ag
  have b7:=cw.ext ag
  have d5:=b6.ext (o1) ag
  have d6:=d0.ext (Av<|AN 127 dp) ag
  have b8:=d1.ext ag
  have bh:=bf.ext (o1) ag
  have bi:=bg.ext (o1) ag
  have bj:=ce.ext (o1) ag
  refine Bd (!(decide ((Ek p f a ws n)=(Ek p f a ws n)))) Z Z Aa<|Ad 1 Z ?_
  cases ol:(!(decide ((Ek p f a ws n)=(Ek p f a ws n))))
  ·
    refine Ad 2 Z<|AU false Z Z sM (Ag (e:=66) Z Z Z)<|Ac 1 Z<|Ai Z<|A2<|A0<|A0<|AO _ [1,1,3,3,0] mixed (by kernel_rfl)<|AJ (p:=zP c4.heap.size) (.inl Z) [bv] Df Z (fun bz az=>LD.of_box<|BX.ext (w:=cb.drew) b8 az) Z Aa<|AJ (p:=zP w.heap.size) (.inl Z) [vp] Ol Z (fun bz az=>LD.of_box<|BX.ext (w:=cb.drew) b7 az) Z Aa<|Am 32 [] [] [.agg #[vp]] Z Z TU Aa (Dr _ dp vp (p) (hp.ext (Al<|Ax dp) jh.drew) oM) ?_
    rintro dh dn ⟨cu,rfl,a3,d7⟩
    refine⟨_,rfl,a3,?_⟩
    replace a3:=a3.of_drew
    have no:=a3.size
    have lj:=jh.trans a3
    have d8:=b7.ext a3
    have dc:=d5.ext (o1) a3
    have b9:=d6.ext (Av<|AN 127 dp) a3
    have dd:=b8.ext a3
    have bk:=bh.ext (o1) a3
    have bl:=bi.ext (o1) a3
    have bm:=bj.ext (o1) a3
    replace d7:=d7.low (B':=cb.heap.size)<|A7 _
    refine Am 35 [] [] [.agg #[bv],.agg #[cu]] Z Z Zn Aa (JG _ dp bv (p) dp cu (p) (RN.of_frF b9 fun b hb=>by cases hb) (RN.of_frF d7 fun b hb=>by cases hb) (by rfl)) ?_
    rintro dq dr ⟨rfl,ac⟩
    refine⟨_,rfl,ac,?_⟩
    have np:=ac.size
    have k3:=lj.trans ac
    have de:=d8.ext ac
    have di:=dc.ext (o1) ac
    have dj:=b9.ext (Av<|AN 127 dp) ac
    have dk:=dd.ext ac
    have bn:=bk.ext (o1) ac
    have bo:=bl.ext (o1) ac
    have bp:=bm.ext (o1) ac
    refine Bd false Z Z Aa<|Aj<|Ai Z<|A2<|A0<|ZN [0,0,3,3,0] Z<|Ad 2 Z<|Am 33 [] [] [va] Z Z Oe Aa (C1 _ _ _ (ha.ext g1 k3) oM) ?_
    rintro dv dx ⟨k4,rfl,ad,cf⟩
    refine⟨_,rfl,ad,?_⟩
    have nq:=ad.size
    have lk:=k3.trans ad
    have dm:=de.ext ad
    have ds:=di.ext (o1) ad
    have dt:=dj.ext (Av<|AN 127 dp) ad
    have du:=dk.ext ad
    have au:=bn.ext (o1) ad
    have bq:=bo.ext (o1) ad
    have br:=bp.ext (o1) ad
    refine Am 34 [] [] [b2,k4] Z Z Se Aa (D5 _ _ _ _ _ au.rd1 cf.rd1) ?_
    rintro dy dz ⟨rfl,a4⟩
    refine⟨_,rfl,a4,?_⟩
    have nr:=a4.size
    have ji:=lk.trans a4
    have dw:=dm.ext a4
    have e0:=ds.ext (o1) a4
    have e1:=dt.ext (Av<|AN 127 dp) a4
    have e2:=du.ext a4
    have bs:=au.ext (o1) a4
    have bt:=bq.ext (o1) a4
    have bu:=br.ext (o1) a4
    refine Bd (!(decide (a=a))) Z Z Aa<|Aj ?_
    cases k5:(!(decide (a=a)))
    ·
      refine Ai (by first|rfl|exact zW k5)<|A2<|A0<|ZN [0,0,3,3,0] Z<|Ad 2 Z<|Am 33 [] [] [vw] Z Z Oe Aa (C1 _ _ _ (hws.ext g1 ji) oM) ?_
      rintro e3 ea ⟨k6,rfl,a5,cg⟩
      refine⟨_,rfl,a5,?_⟩
      have ns:=a5.size
      have ll:=ji.trans a5
      have e5:=dw.ext a5
      have ed:=e0.ext (o1) a5
      have ee:=e1.ext (Av<|AN 127 dp) a5
      have ef:=e2.ext a5
      have bw:=bs.ext (o1) a5
      have av:=bt.ext (o1) a5
      have bx:=bu.ext (o1) a5
      refine Am 34 [] [] [b3,k6] Z Z Se Aa (D5 _ _ _ _ _ av.rd1 cg.rd1) ?_
      rintro eb cx ⟨rfl,a1⟩
      refine⟨_,rfl,a1,?_⟩
      have nt:=a1.size
      have jj:=ll.trans a1
      have eh:=e5.ext a1
      have el:=ed.ext (o1) a1
      have em:=ee.ext (Av<|AN 127 dp) a1
      have ba:=ef.ext a1
      have c0:=bw.ext (o1) a1
      have c1:=av.ext (o1) a1
      have c2:=bx.ext (o1) a1
      refine Bd (!(decide (ws=ws))) Z Z Aa<|Aj ?_
      cases k7:(!(decide (ws=ws)))
      ·
        refine Ai (by first|rfl|exact zW k7)<|A2<|ZN [0] Z ?_
        have hlt:=VZ (p:=p) (f:=f) (n:=n) (a:=a) (ws:=ws)
        refine Ac 1 Z<|ZN [2,0,4,0] Z<|AJ (p:=zP c4.heap.size) (.inr Z) [bv] Df Z (fun bz az=>LD.of_box<|BX.ext (w:=cx) ba az) Z Aa<|Ad 1 Z ?_
        obtain⟨d2,lm,ln,ah⟩:=em
        refine AI 36 [] [] [.agg #[bv],zI ((1:Nat):Int)] Z Z Zo Aa (Iq _ dp bv p d2 ((1:Nat):Int) (lm.imp fun h=>X9 _ h) ln oM oM) ?_
        rintro ec ch ⟨k33,rfl,ae,om,on⟩
        refine⟨_,rfl,?_⟩
        have k8:AF w ch:=ae.below jj (fun c hc=>A8 oM (ah c hc).1) jj.size
        have nu:cx.heap.size≤ch.heap.size:=ae.size
        have lo:=eh.chg ae fun hm=>zH<|ah _ hm
        have ls:=el.chg (o1) ae fun c hc=>zH<|ah c hc
        have lv:=c0.chg (o1) ae fun c hc=>zH<|ah c hc
        have lw:=c1.chg (o1) ae fun c hc=>zH<|ah c hc
        have lx:=c2.chg (o1) ae fun c hc=>zH<|ah c hc
        refine Ac 1 Z<|ZN [0,0,4,0] Z<|Ad 2 Z ?_
        obtain⟨G46,m1,k9,jk⟩:=lv
        refine AI 37 [] [] [b2,zI k33] Z Z VM Aa (E9 _ _ _ _ _ m1 k9 oM oM) ?_
        rintro eg c8 ⟨rfl,ai,m2⟩
        refine⟨_,rfl,?_⟩
        have ka:AF w c8:=ai.below k8 (fun b hb=>A8 je.size (jk b hb).1) k8.size
        have an:=jk
        have m3:Fr (Bo rI 2) c7.heap.size ct.heap.size c8.heap b2 _:=⟨G46,m2,k9,jk⟩
        have nv:ch.heap.size≤c8.heap.size:=ai.size
        have m4:=lo.chg ai fun hm=>zH<|an _ hm
        have m8:=ls.chg (o1) ai fun c hc=>zH<|an c hc
        have ma:=lw.chg (o1) ai fun c hc=>zH<|an c hc
        have mb:=lx.chg (o1) ai fun c hc=>zH<|an c hc
        refine Ac 1 Z<|ZN [0,0,4,0] Z<|Ad 2 Z ?_
        obtain⟨G58,mf,kb,jl⟩:=ma
        refine AI 37 [] [] [b3,zI (k33+(a.length:Int))] Z Z VM Aa (E9 _ _ _ _ _ mf kb oM oM) ?_
        rintro ei ci ⟨rfl,aj,mg⟩
        refine⟨_,rfl,?_⟩
        have kc:AF w ci:=aj.below ka (fun b hb=>A8 jg.size (jl b hb).1) ka.size
        have ao:=jl
        have mh:Fr (Bo rI 2) ct.heap.size ca.heap.size ci.heap b3 _:=⟨G58,mg,kb,jl⟩
        have nw:c8.heap.size≤ci.heap.size:=aj.size
        have mi:=m4.chg aj fun hm=>zH<|ao _ hm
        have kd:=m8.chg (o1) aj fun c hc=>zH<|ao c hc
        have ke:=mb.chg (o1) aj fun c hc=>zH<|ao c hc
        refine Ac 1 Z<|A0<|ZN [0,0,0,0,0,3,0,0,0,0,0,0,0] Z<|Ad 1 Z ?_
        by_cases kf:(k33+(a.length:Int))+(ws.length:Int)<((0:Nat):Int)
        ·
          exact AE true Z Z (A5 kf) Aa<|Ac 11 Z<|Ah Z<|ZO Z<|A1<|Ao<|Af [10] Z (.bool false) Z ⟨Jl,kc⟩
        refine AE false Z Z (A6 kf) Aa<|Ad 3 Z<|Am 34 [] [] [ab,be] Z Z Se (Ag (e:=97) Z Z Z) (D5 _ _ _ _ _ ke.rd1 kd.rd1) ?_
        rintro ej d3 ⟨rfl,a6⟩
        refine⟨_,rfl,a6,?_⟩
        have nx:=a6.size
        have jm:=kc.trans a6
        have eo:=mi.ext a6
        have es:=kd.ext (o1) a6
        have ew:=ke.ext (o1) a6
        refine Bd (!(decide ((Ek p f a ws n)=(Ek p f a ws n)))) Z Z (Ag (e:=97) Z Z Z)<|Ad 2 Z ?_
        cases oo:(!(decide ((Ek p f a ws n)=(Ek p f a ws n))))
        ·
          refine Ad 2 Z<|AU false Z Z sM (Ag (e:=103) Z Z Z)<|Ac 1 Z<|Ai Z<|A2<|ZO Z<|ZN [0,0,4,0] Z<|Ad 2 Z ?_
          obtain⟨G73,mr,kg,jn⟩:=ew
          refine AI 37 [] [] [ab,zI ((1:Nat):Int)] Z Z VM Aa (E9 _ _ _ _ _ mr kg oM oM) ?_
          rintro ek ck ⟨rfl,ak,ms⟩
          refine⟨_,rfl,?_⟩
          have mt:AF w ck:=ak.below jm (fun b hb=>A8 k2.size (jn b hb).1) jm.size
          have ap:=jn
          have kh:Fr (Bo rI 2) ca.heap.size cz.heap.size ck.heap ab _:=⟨G73,ms,kg,jn⟩
          have ny:d3.heap.size≤ck.heap.size:=ak.size
          have mu:=eo.chg ak fun hm=>zH<|ap _ hm
          have my:=es.chg (o1) ak fun c hc=>zH<|ap c hc
          refine Ac 1 Z<|ZO Z<|ZN [0,0,3,0] Z<|Ad 2 Z<|Am 38 [] [] [ab,zI ((1:Nat):Int)] Z Z XA Aa (FX _ _ _ _ kh.rd1 oM (by rw[Hh];omega) (by intro i hi;rw[Hh]at hi;exact R4 hi)) ?_
          rintro en d4 ⟨rfl,a7⟩
          refine⟨_,rfl,a7,?_⟩
          have nz:=a7.size
          have g0:=mt.trans a7
          have bb:=mu.ext a7
          have g5:=my.ext (o1) a7
          have g9:=kh.ext (o1) a7
          refine Ac 1 Z<|A0<|ZN [0,0] Z<|Ad 1 Z ?_
          by_cases ki:((1:Nat):Int)+(((up (Ek p f a ws n).length ((1:Nat):Int)).length:Nat):Int)<((0:Nat):Int)
          ·
            exact AE true Z Z (A5 ki) Aa<|Aj<|Ah Z<|ZO Z<|A1<|Ao<|Af [10] Z (.bool false) Z ⟨Jl,g0⟩
          refine AE false Z Z (A6 ki) Aa<|Aj<|Ai Z<|A2<|A0<|ZN [0,0,0] Z ?_
          have hmt:(up (Ek p f a ws n).length ((1:Nat):Int)).length=(Ek p f a ws n).length:=Hh _ _
          refine Ad 2 Z ?_
          by_cases kj:((1:Nat):Int)+(((up (Ek p f a ws n).length ((1:Nat):Int)).length:Nat):Int)≠((1:Nat):Int)+(((Ek p f a ws n).length:Nat):Int)
          ·
            exact AU true Z Z (A5 kj) Aa<|Aj<|Ah Z<|ZO Z<|A1<|Ao<|Af [10] Z (.bool false) Z ⟨Jl,g0⟩
          refine AU false Z Z (A6 kj) Aa<|Aj<|Ai Z<|A2<|ZN [2,3,0,0,3,0,3,0,3,0,0,0,0,0] Z<|AJ (p:=zP w.heap.size) (.inr Z) [vp] Ol Z (fun bz az=>LD.of_box<|BX.ext (w:=d4) bb az) Z Aa<|Am 32 [] [] [.agg #[vp]] Z Z TU Aa (Dr _ dp vp (p) (hp.ext (Al<|Ax dp) g0) oM) ?_
          rintro ep er ⟨cy,rfl,a8,n5⟩
          refine⟨_,rfl,a8,?_⟩
          have o0:=a8.size
          have kk:=g0.trans a8
          have gh:=g5.ext (o1) a8
          have gl:=g9.ext (o1) a8
          refine Ad 2 Z<|Am 33 [] [] [va] Z Z Oe Aa (C1 _ _ _ (ha.ext g1 kk) oM) ?_
          rintro et eu ⟨kl,rfl,a2,jo⟩
          refine⟨_,rfl,a2,?_⟩
          have o2:=a2.size
          have km:=kk.trans a2
          have gt:=gh.ext (o1) a2
          have gx:=gl.ext (o1) a2
          have i1:=n5.ext (Av<|AN 127 dp) a2
          refine Ad 1 Z<|Am 33 [] [] [vw] Z Z Oe Aa (C1 _ _ _ (hws.ext g1 km) oM) ?_
          rintro ex ey ⟨kn,rfl,a0,jp⟩
          refine⟨_,rfl,a0,?_⟩
          have o3:=a0.size
          have n6:=km.trans a0
          have i6:=gt.ext (o1) a0
          have ia:=gx.ext (o1) a0
          have ie:=i1.ext (Av<|AN 127 dp) a0
          have c5:=jo.ext (o1) a0
          refine Ad 1 Z<|Am 24 [] [] [.agg #[cy],zI f,kl,kn,zI n] Z Z Xz Aa (EN _ dp cy (p) _ _ _ _ _ _ (RN.of_frF ie fun b hb=>by cases hb) _hf c5.rd1 jp.rd1 _hn hz) ?_
          rintro ez f0 ⟨bc,rfl,a9,jq,n7⟩
          refine⟨_,rfl,a9,?_⟩
          have o4:=a9.size
          have n8:=n6.trans a9
          have bd:=i6.ext (o1) a9
          have io:=ia.ext (o1) a9
          refine Ad 1 Z<|B7 (vs:=[bc,zI<|Fk p f a ws n]) bc Z Z Aa<|B7 (vs:=[bc,zI<|Fk p f a ws n]) (zI<|Fk p f a ws n) Z Z Aa<|Ac 2 Z<|A0<|ZN [0,0,3,0,0,0,0,0,0] Z<|Ad 2 Z<|Am 34 [] [] [bc,be] Z Z Se Aa (D5 _ _ _ _ _ jq.rd1 bd.rd1) ?_
          rintro f1 f2 ⟨rfl,aa⟩
          refine⟨_,rfl,aa,?_⟩
          have o5:=aa.size
          have ko:=n8.trans aa
          have j0:=io.ext (o1) aa
          refine Bd (!(decide ((Ek p f a ws n)=(Ek p f a ws n)))) Z Z Aa<|Ad 1 Z ?_
          cases op:(!(decide ((Ek p f a ws n)=(Ek p f a ws n))))
          ·
            refine Ad 2 Z<|AU false Z Z sM (Ag (e:=135) Z Z Z)<|Ac 1 Z<|Ai Z<|A2<|ZO Z<|ZN [0,0,3,0] Z<|Ad 2 Z<|Am 38 [] [] [ab,zI ((1:Nat):Int)] Z Z XA Aa (FX _ _ _ _ j0.rd1 oM (by rw[Hh];omega) (by intro i hi;rw[Hh]at hi;exact R4 hi)) ?_
            rintro f3 f4 ⟨rfl,af⟩
            refine⟨_,rfl,af,?_⟩
            have o6:=af.size
            have jr:=ko.trans af
            refine Ac 1 Z<|A0<|ZN [0,0] Z<|Ad 1 Z ?_
            by_cases kp:((1:Nat):Int)+(((up (Ek p f a ws n).length ((1:Nat):Int)).length:Nat):Int)<((0:Nat):Int)
            ·
              exact AE true Z Z (A5 kp) Aa<|Aj<|Ah Z<|ZO Z<|A1<|Ao<|Af [10] Z (.bool false) Z ⟨Jl,jr⟩
            refine AE false Z Z (A6 kp) Aa<|Aj<|Ai Z<|A2<|A0<|ZN [0,0,0] Z ?_
            have hmt:(up (Ek p f a ws n).length ((1:Nat):Int)).length=(Ek p f a ws n).length:=Hh _ _
            refine Ad 2 Z ?_
            by_cases kq:((1:Nat):Int)+(((up (Ek p f a ws n).length ((1:Nat):Int)).length:Nat):Int)≠((1:Nat):Int)+(((Ek p f a ws n).length:Nat):Int)
            ·
              exact AU true Z Z (A5 kq) Aa<|Aj<|Ah Z<|ZO Z<|A1<|Ao<|Af [10] Z (.bool false) Z ⟨Jl,jr⟩
            exact AU false Z Z (A6 kq) Aa<|Aj<|Ai Z<|A2<|ZO Z<|A1<|Af [10] Z (.bool true) Z ⟨Jl,jr⟩
          exact Ac 4 Z<|Ah Z<|ZO Z<|A1<|Ao<|Af [10] Z (.bool false) Z ⟨Jl,ko⟩
        exact Ac 4 Z<|Ah Z<|ZO Z<|A1<|Ao<|Af [10] Z (.bool false) Z ⟨Jl,jm⟩
      exact Ah (by first|rfl|exact zW k7)<|ZO Z<|A1<|Ao<|Af [10] Z (.bool false) Z ⟨Jl,jj⟩
    exact Ah (by first|rfl|exact zW k5)<|ZO Z<|A1<|Ao<|Af [10] Z (.bool false) Z ⟨Jl,ji⟩
  exact Ac 4 Z<|Ah Z<|ZO Z<|A1<|Ao<|Af [10] Z (.bool false) Z ⟨Jl,jh⟩
end
section
open Go Go.RowKit Go.ChangeShapes Go.WideShapes Go.Deep
theorem On {s:Nat}:∀ {css:List (List Value)}(k:Nat){j:Nat},(∀c∈css,c.length=s)→j<s→css.flatten[k*s+j]? = (css[k]?).bind fun c=>c[j]?
 |[],k,j,_,_=>by simp
 |c::css,0,j,h,hj=>by
  have hc:=h c (z0 ..)
  rw[Nat.zero_mul,Nat.zero_add,List.flatten_cons,List.getElem?_append_left (by omega)]
  simp
 |c::css,k+1,j,h,hj=>by
  have hc:=h c (z0 ..)
  rw[List.flatten_cons,List.getElem?_append_right (by rw[Nat.succ_mul];omega),show(k+1)*s+j-c.length=k*s+j from by rw[Nat.succ_mul];omega,
   On k (fun c hc=>h c (z3 _ hc)) hj]
  simp
theorem Qc {α:Type}{E:Bz α}{H:Array Obj}(U:Nat→List Value)(X:Nat→α):∀(n:Nat),(∀i,i<n→∃F,E H (U i) (X i) F)→∃F,C4 E H ((List.range n).map U) ((List.range n).map X) F
 |0,_=>⟨[],rfl⟩
 |n+1,h=>by
  obtain⟨F,hF⟩:=Qc U X n fun i hi=>h i zO
  obtain⟨G,hG⟩:=h n zO
  rw[List.range_succ,List.map_append,List.map_append]
  exact⟨F++(G++[]),hF.append ⟨G,[],rfl,hG,rfl⟩⟩
theorem Ug {α:Type}{E:Bz α}{s:Nat}(hE:C3 s E)(hs:0<s){W:World}{a:Addr}{n cap:Nat}(hn:n≤maxLen)(hnc:n≤cap)(U:Nat→List Value)(X:Nat→α)
  (hc:∀i,i<n→∀j,j<s→W.cell? (a.add (i*s+j))=(U i)[j]?) (hX:∀i,i<n→∃F,E W.heap (U i) (X i) F):∃F,Cj s E W.heap (.slice (some a) n cap) ((List.range n).map X) F:=by
 by_cases h0:n=0
 ·subst h0
  exact⟨[],.inl ⟨some a,cap,rfl,rfl,rfl⟩⟩
 ·obtain⟨F,hF⟩:=Qc U X n hX
  have hlU:∀i,i<n→(U i).length=s:=fun i hi=>by obtain⟨G,hG⟩:=hX i hi;exact hE.len hG
  obtain⟨g,off,spot⟩:=a
  have h1:=hc 0 zO 0 hs
  rw[List.getElem?_eq_getElem (by rw[hlU 0 (by omega)];exact hs)]at h1
  have hsp:spot=none:=by simpa [Addr.add]using World.cell?_spot h1
  subst hsp
  have hcell:∀i,i<n→∀j,j<s→BN W.heap g (off+(i*s+j))=(U i)[j]?:=fun i hi j hj=>by
   have:=hc i hi j hj
   rw[add_plain,BB]at this
   exact this
  have h2:=hcell 0 zO 0 hs
  rw[List.getElem?_eq_getElem (by rw[hlU 0 (by omega)];exact hs)]at h2
  unfold BN at h2
  cases hg:W.heap[g]? with
  |none=>rw[hg]at h2;cases h2
  |some o =>
   cases o with
   |cells cur e fr =>
    refine⟨g::F,.inr ⟨(List.range n).map U,g,off,cap,cur,e,fr,F,hF,by simp,hg,?_,⟨by simpa using hn,by simpa using hnc⟩,rfl⟩⟩
    have hlen:∀c∈(List.range n).map U,c.length=s:=fun c hc=>by
     obtain⟨i,hi,rfl⟩:=List.mem_map.1 hc
     exact hlU i<|List.mem_range.1 hi
    have hfl:=hF.flen hE
    apply List.ext_getElem?
    intro q
    rw[List.getElem?_take,List.getElem?_drop]
    simp only[zg,List.length_range]at hfl ⊢
    by_cases hq:q<n*s
    ·have e1:q=q / s*s+q % s:=by rw[Nat.mul_comm,Nat.div_add_mod]
     have hj:q % s<s:=Nat.mod_lt _ hs
     have hi:q / s<n:=(Nat.div_lt_iff_lt_mul hs).2 hq
     have h3:=hcell (q / s) hi (q % s) hj
     unfold BN at h3
     rw[hg,← e1]at h3
     have h4:=On (css:=(List.range n).map U) (q / s) hlen hj
     rw[← e1]at h4
     rw[if_pos hq,h4]
     simp only[Array.getElem?_toList]at *
     rw[h3]
     simp[hi]
    ·rw[if_neg hq,List.getElem?_eq_none (by omega)]
   |_=>rw[hg]at h2;cases h2
def P7 (P:Program)(t:TypeId)(l:List (Nat×TypeId)):Bool :=
 match P.underlying t with
 |some (.struct fs)=>decide (fs.toList.map (fun f=>(f.offset,f.type))=l)
 |_=>false
section
variable {H:Type} {enc:TypeId × Value→H} {P:Program} {W:World} {base:Nat} {held:Bool} {sp:Nat→Bool}
theorem LM {t:TypeId}{l:List (Nat×TypeId)}{fuel:Nat}{cs:List Value}{x:DataW H×List MemPlace}(ht:P7 P t l=true)(h:DataW.trod enc P W base sp held fuel t cs=some x) :
  ∃n,fuel=n+1∧cs.length=P.cellsOf t∧∀(i o:Nat) (ty:TypeId),l[i]? = some (o,ty)→∃y,DataW.trod enc P W base sp held n ty ((cs.drop o).take (P.cellsOf ty))=some y:=by
 unfold P7 at ht
 split at ht
 ·rename_i fs hfs
  have hl:=of_decide_eq_true ht
  obtain⟨xs,n,hfu,_,hlen,hxl,hf⟩:=DataW.trod_struct hfs h
  refine⟨n,hfu,hlen,fun i o ty hi=>?_⟩
  rw[← hl,List.getElem?_map]at hi
  obtain⟨f,hf1,hf2⟩:=Option.map_eq_some_iff.1 hi
  have hf3:fs[i]? = some f:=by simpa using hf1
  have hil:i<xs.length:=by
   rw[hxl]
   exact (Array.getElem?_eq_some_iff.1 hf3).1
  have h2:=hf i f hf3
  injection hf2 with e1 e2
  rw[← e1,← e2,h2]
  exact⟨xs[i],List.getElem?_eq_getElem hil⟩
 ·cases ht
theorem P8:∀ {d:Nat}{H:Array Obj}{cs:List Value}{x:Ex}{F:List Nat},H0 d H cs x F→H0 (d+1) H cs x F
 |0,_,_,_,_,h=>h.elim
 |d+1,_,_,_,_,⟨v,h1,h2,h3⟩=>⟨v,h1,h2,h3.imp fun h=>P8 h⟩
theorem Oo {α:Type} [Inhabited α] {E:Bz α}{t e:TypeId}{s fuel:Nat}{u:Value}{x:DataW H×List MemPlace}(hE:C3 s E)(hs:0<s)(ht:P.underlying t=some (.slice e))(ce:P.cellsOf e=s)
  (hel:∀ {n:Nat} {cs:List Value} {x:DataW H×List MemPlace},fuel=n+1→DataW.trod enc P W base (fun _=>true) held n e cs=some x→∃(y:α) (F:List Nat),E W.heap cs y F)
  (hf:DataW.trod enc P W base (fun _=>true) held fuel t [u]=some x):∃(zs:List α) (F:List Nat),Cj s E W.heap u zs F:=by
 rcases DataW.trod_slice ht hf with⟨hcs,_⟩|⟨a,len,cap,elems,rest,n,hfu,hcs,_,_,hl,hm,hlen,helm,_,_⟩
 ·simp only[List.cons.injEq,and_true]at hcs
  subst hcs
  exact⟨[],[],.inl ⟨none,0,rfl,rfl,rfl⟩⟩
 ·simp only[List.cons.injEq,and_true]at hcs
  subst hcs
  have h1:∀i,i<len→∃c:List Value×α,(∀j,j<s→W.cell? (a.add (i*s+j))=c.1[j]?)∧∃F,E W.heap c.1 c.2 F:=by
   intro i hi
   have h2:=helm i hi
   rw[List.getElem?_eq_getElem (by omega)]at h2
   obtain⟨cs',q1,q2⟩:=Option.bind_eq_some_iff.1 h2
   obtain⟨_,ql,qc⟩:=World.cells?_some q1
   obtain⟨y,F,hy⟩:=hel hfu q2
   refine⟨(cs',y),fun j hj=>?_,F,hy⟩
   have:=qc j (by rw[ce];exact hj)
   rwa [add_add,ce]at this
  obtain⟨C,hC⟩:=choose_lt (α:=List Value×α) (n:=len) h1
  obtain⟨F,hF⟩:=Ug hE hs (W:=W) (a:=a) (n:=len) (cap:=cap) zO hl (fun i=>(C i).1) (fun i=>(C i).2) (fun i hi=>(hC i hi).1) (fun i hi=>(hC i hi).2)
  exact⟨_,F,hF⟩
instance:Inhabited Ex:=⟨Ex.zero⟩
instance:Inhabited Fn:=⟨Fn.zero⟩
theorem SY {tS tE ti:TypeId}(hS:P.underlying tS=some (.slice tE))(hE:P7 P tE [(0,ti),(1,ti),(2,ti),(3,ti),(4,tS)]=true)(hi:P.underlying ti=some (.int .i64))(cE:P.cellsOf tE=5)(ci:P.cellsOf ti=1)(cS:P.cellsOf tS=1) :
  ∀(fuel:Nat) (u:Value) (x:DataW H×List MemPlace),DataW.trod enc P W base (fun _=>true) held fuel tS [u]=some x→∃(zs:List Ex) (F:List Nat),Cj 5 (H0 fuel) W.heap u zs F:=by
 intro fuel
 induction fuel using Nat.strongRecOn with
 |_ fuel ih =>
  intro u x hf
  refine Oo (Aq fuel) (by decide) hS cE ?_ hf
  intro n cs y hfu hy
  obtain⟨m,hm,hlen,hfd⟩:=LM hE hy
  have num:∀o,o<4→∃z:Int,(cs.drop o).take 1=[.int .i64 z]∧Bk z:=by
   intro o ho
   obtain⟨y',hy'⟩:=hfd o o ti (by match o,ho with|0,_=>rfl|1,_=>rfl|2,_=>rfl|3,_=>rfl)
   rw[ci]at hy'
   obtain⟨z,hz,_,hw⟩:=DataW.trod_int hi hy'
   exact⟨z,hz,KE hw⟩
  obtain⟨y4,hy4⟩:=hfd 4 4 tS rfl
  rw[cS]at hy4
  rw[cE]at hlen
  match cs,hlen with
  |[c0,c1,c2,c3,c4],_ =>
   obtain⟨z0,e0,r0⟩:=num 0 (by decide)
   obtain⟨z1,e1,r1⟩:=num 1 (by decide)
   obtain⟨z2,e2,r2⟩:=num 2 (by decide)
   obtain⟨z3,e3,r3⟩:=num 3 (by decide)
   have q0:c0=.int .i64 z0:=by simpa using e0
   have q1:c1=.int .i64 z1:=by simpa using e1
   have q2:c2=.int .i64 z2:=by simpa using e2
   have q3:c3=.int .i64 z3:=by simpa using e3
   subst q0;subst q1;subst q2;subst q3
   obtain⟨zs,F,hz⟩:=ih m zO c4 y4 hy4
   subst hm
   subst hfu
   exact⟨.mk z0 z1 z2 z3 zs,F,P8 (d:=m+1) ⟨c4,rfl,⟨r0,r1,r2,r3⟩,hz⟩⟩
theorem Qr {t tF tN tS tE ti tz:TypeId}{d:DataW H}{ps:List MemPlace}{v:Value}{b0:Nat}{r:Reach}(hP:P7 P t [(0,tF)]=true)(hF:P.underlying tF=some (.slice tN))(hN:P7 P tN [(0,tz),(1,ti),(2,tS)]=true)
  (hS:P.underlying tS=some (.slice tE)) (hE:P7 P tE [(0,ti),(1,ti),(2,ti),(3,ti),(4,tS)]=true) (hi:P.underlying ti=some (.int .i64)) (hz:P.underlying tz=some .string)
  (cP:P.cellsOf t=1) (cF:P.cellsOf tF=1) (cN:P.cellsOf tN=3) (cE:P.cellsOf tE=5) (ci:P.cellsOf ti=1) (cS:P.cellsOf tS=1) (cz:P.cellsOf tz=1)
  (hval:Value.okWide P W r b0 t v) (hd:DataW.Trod enc P W base (fun _=>true) held t v d ps) :
  ∃(u:Value) (dp:Nat) (p:List Fn),v=.agg #[u]∧RP [] dp W.heap u p∧∀k,k<p.length→(p.getD k Fn.zero).name.size≤9223372036854775807:=by
 have hstr:∃fs,P.underlying t=some (.struct fs):=by
  unfold P7 at hP
  split at hP
  ·rename_i fs hfs;exact⟨fs,hfs⟩
  ·cases hP
 obtain⟨fs,hfs⟩:=hstr
 obtain⟨cs,rfl,hcs⟩:=okWide_struct hfs hval
 obtain⟨fuel,hf⟩:=hd
 obtain⟨n,hfu,hlen,hfd⟩:=LM hP hf
 obtain⟨y,hy⟩:=hfd 0 0 tF rfl
 rw[cF]at hy
 rw[cP]at hlen
 have hlen':cs.toList.length=1:=hlen
 match hcl:cs.toList,hlen' with
 |[u],_ =>
  have hcu:cs=#[u]:=by apply Array.ext';simpa using hcl
  subst hcu
  have hy':DataW.trod enc P W base (fun _=>true) held n tF [u]=some y:=hy
  obtain⟨zs,F,hzs⟩:=Oo (E:=fun H cs f F=>QG n H cs f F∧f.name.size≤9223372036854775807) (s:=3)
   ⟨fun h=>(Ax n).len h.1,fun h=>(Ax n).one h.1,fun h=>(Ax n).lt h.1,fun h hb=>⟨(Ax n).stable h.1 hb,h.2⟩⟩ (by decide) hF cN (by
    intro m cs y hm hy
    obtain⟨q,hq,hlen,hfd⟩:=LM hN hy
    rw[cN]at hlen
    obtain⟨y0,h0⟩:=hfd 0 0 tz rfl
    obtain⟨y1,h1⟩:=hfd 1 1 ti rfl
    obtain⟨y2,h2⟩:=hfd 2 2 tS rfl
    rw[cz]at h0
    rw[ci]at h1
    rw[cS]at h2
    match cs,hlen with
    |[c0,c1,c2],_ =>
     obtain⟨s,e0,_,hs⟩:=DataW.trod_string hz h0
     obtain⟨z,e1,_,hw⟩:=DataW.trod_int hi h1
     have q0:c0=.string s:=by simpa using e0
     have q1:c1=.int .i64 z:=by simpa using e1
     subst q0;subst q1
     obtain⟨es,F,hes⟩:=SY (enc:=enc) (W:=W) (base:=base) (held:=held) hS hE hi cE ci cS q c2 y2 h2
     have hup:∀k,Cj 5 (H0 (q+k)) W.heap c2 es F:=by
      intro k
      induction k with
      |zero=>exact hes
      |succ k ih=>exact ih.imp fun h=>P8 h
     have hn:Cj 5 (H0 n) W.heap c2 es F:=by
      have:=hup (n-q)
      rwa [show q+(n-q)=n from by omega]at this
     exact⟨⟨s,z,es⟩,F,⟨c2,rfl,KE hw,hn⟩,by unfold maxLen at hs;exact hs⟩) hy'
  refine⟨u,n,zs,rfl,⟨F,hzs.imp fun h=>h.1,fun b hb hm=>by cases hm⟩,fun k hk=>?_⟩
  obtain⟨cs,G,hg,_⟩:=Cj.get (E:=fun H cs f F=>QG n H cs f F∧f.name.size≤9223372036854775807) (s:=3) ⟨fun h=>(Ax n).len h.1,fun h=>(Ax n).one h.1,fun h=>(Ax n).lt h.1,fun h hb=>⟨(Ax n).stable h.1 hb,h.2⟩⟩ Fn.zero hzs hk
  exact hg.2
end
end
section
open Go Go.ChangeShapes Go.RowKit
section
variable {H:Type} {enc:TypeId × Value→H} {P:Program} {w:World} {base:Nat} {spare:Nat→Bool} {held:Bool}
theorem Nu {t0 t1 t2 t3 t4:TypeId}{args:Array Value}{ds:List (DataW H)}{ps:List MemPlace}(h:DataW.TrodAll enc P w base spare held [t0,t1,t2,t3,t4] args.toList ds ps) :
  ∃v0 v1 v2 v3 v4 d0 d1 d2 d3 d4 p0 p1 p2 p3 p4,args=#[v0,v1,v2,v3,v4]∧ds=[d0,d1,d2,d3,d4]∧ps=p0++p1++p2++p3++p4∧DataW.Trod enc P w base spare held t0 v0 d0 p0∧DataW.Trod enc P w base spare held t1 v1 d1 p1∧DataW.Trod enc P w base spare held t2 v2 d2 p2∧DataW.Trod enc P w base spare held t3 v3 d3 p3∧DataW.Trod enc P w base spare held t4 v4 d4 p4:=by
 obtain⟨v0,vs0,d0,ds0,p0,q0,hargs,rfl,rfl,hd0,hr0⟩:=trodAll_cons h
 obtain⟨v1,vs1,d1,ds1,p1,q1,rfl,rfl,rfl,hd1,hr1⟩:=trodAll_cons hr0
 obtain⟨v2,vs2,d2,ds2,p2,q2,rfl,rfl,rfl,hd2,hr2⟩:=trodAll_cons hr1
 obtain⟨v3,vs3,d3,ds3,p3,q3,rfl,rfl,rfl,hd3,hr3⟩:=trodAll_cons hr2
 obtain⟨v4,vs4,d4,ds4,p4,q4,rfl,rfl,rfl,hd4,hr4⟩:=trodAll_cons hr3
 obtain⟨rfl,rfl,rfl⟩:=trodAll_nil hr4
 exact⟨v0,v1,v2,v3,v4,d0,d1,d2,d3,d4,p0,p1,p2,p3,p4,by cases args;simp_all,rfl,by simp,hd0,hd1,hd2,hd3,hd4⟩
end
end
end Go.Proofs.YtjnbnlniafmblaaGreat
