/- Ya, Yb, Yc, Yd, Ye, Yr, Ux, Uy, Uz, Ut, Uu: texts of this claim, joined; what the claim does not come to is left out. -/
import Derived.Test.YtemfgblmfahllaaGreatQE3
import Derived.Test.YtemfgblmfahllaaGreatProg
set_option linter.unusedVariables false
set_option linter.unusedSimpArgs false
namespace Go.Proofs.YtemfgblmfahllaaGreat
open Go Go.RowKit
section
set_option maxHeartbeats 4000000
set_option maxRecDepth 100000
attribute [local irreducible] LW
theorem Rg {p:Prop}(h:p:=by simp only[z9,zb];unfold maxLen;omega):p:=h
theorem Rh {p:Prop}(h:p:=by simp only[z9,zb];omega):p:=h
theorem KG {p:Prop}(h:p:=by rw[EX];omega):p:=h
theorem Ci (w:World)(S:List Nat)(g:Nat)(vp:Value)(ip:Int)(s0:Nat)(c0:Int)(T:Tp)(c:Aw)(v:Int)(hS:∀b∈S,b<w.heap.size)(hgS:g∈S)(hR0:P6 52 107 2 S g w.heap vp ip T s0 c0)(_hip:Bn ip)(hln:T.code.length≤4000∧T.vals.length≤4000)(hc:OO c)(_hv:Bn v)  :
  Calls Tryz.prog 54 #[zP g,(.agg #[(zI c.op),(zI c.a),(zI c.b),(zI c.num)]),zI v] w (fun e w'=>∃S':List Nat,e=.returned (zI (T.vals.length:Int))∧E9 S S' w w'∧P6 52 107 2 S' g w'.heap vp ip (T.put c v) s0 c0):=by
 refine Ap [zP g,.agg #[zI c.op,zI c.a,zI c.b,zI c.num],zI v] 35 Tryz.func54 Z Z sM ?_
 have dr:At S w w:=At.refl S w
 obtain⟨rc0,rg0,rv0,bt,d5⟩:=hR0
 have fi:=bt.lt
 have hG0:E9 S S w w:=E9.refl hS
 have hml:=C3.len d5
 refine Z1 [3,0] Z ?_
 have eo:=bt.lt
 refine Bx (cs:=#[zI c.op,zI c.a,zI c.b,zI c.num]) Z Aa fun w1 ay ep bu=>?_
 have ds:w.heap.size≤w1.heap.size:=ay.size
 have d6:At S w w1:=dr.ext ay
 have a7:=bt.ext ay
 have dt:=C3.ext d5 ay
 have d7:=hG0.ext ay
 replace bu:BX w1.heap w.heap.size [zI c.op,zI c.a,zI c.b,zI c.num]:=bu
 refine Ac 1 Z<|A0 ?_
 obtain⟨Fc,Fg,Fv,hOc,hOg,hOv,hdj,hgn,hSc,hSg,hSv⟩:=id dt
 letI:JR:=Rx (Fc++Fv)
 refine Jx.Vu _ [0,0,0,0,0,0,1,1,3,3,0,0,0,1,0,3,3,0,0,0,4,0,0,4] [0,1,2,3,4,5,6,7,10,11,12,13,14] 8 9 [15,16,17,18,19,20,21,22,23] 15 [9,16,17,18,19,20,21,22,23] 15 [8,9,16,17,18,19,20,21,22,23] [_,_,_,_,_,_,_,_,_,_,_,_,_] [0,0,0,0,0,0,1,1,0,0,0,1,0] _ _ [_,_,_,_,_,_,_,_,_] [3,3,0,0,0,4,0,0,4] _ [_,_,_,_,_,_,_,_,_] [3,3,0,0,0,4,0,0,4] _ [_,_,_,_,_,_,_,_,_,_] [3,3,3,0,0,0,4,0,0,4] mixed (by kernel_rfl) ⟨rfl,rfl,⟨rfl,rfl,⟨rfl,rfl,⟨rfl,rfl,⟨rfl,rfl,⟨rfl,rfl,⟨rfl,rfl,⟨rfl,rfl,⟨rfl,rfl,⟨rfl,rfl,⟨rfl,rfl,⟨rfl,rfl,⟨rfl,rfl,trivial⟩⟩⟩⟩⟩⟩⟩⟩⟩⟩⟩⟩⟩ ⟨rfl,rfl,trivial⟩ ⟨rfl,rfl,⟨rfl,rfl,⟨rfl,rfl,⟨rfl,rfl,⟨rfl,rfl,⟨rfl,rfl,⟨rfl,rfl,⟨rfl,rfl,⟨rfl,rfl,⟨rfl,rfl,trivial⟩⟩⟩⟩⟩⟩⟩⟩⟩⟩ ⟨rfl,rfl,⟨rfl,rfl,⟨rfl,rfl,⟨rfl,rfl,⟨rfl,rfl,⟨rfl,rfl,⟨rfl,rfl,⟨rfl,rfl,⟨rfl,rfl,⟨rfl,rfl,trivial⟩⟩⟩⟩⟩⟩⟩⟩⟩⟩ ⟨rfl,rfl,⟨rfl,rfl,⟨rfl,rfl,⟨rfl,rfl,⟨rfl,rfl,⟨rfl,rfl,⟨rfl,rfl,⟨rfl,rfl,⟨rfl,rfl,⟨rfl,rfl,⟨rfl,rfl,trivial⟩⟩⟩⟩⟩⟩⟩⟩⟩⟩⟩ ?_
 refine Jx.U0 (zP g) Z Aa<|Jx.U0 (zP g) Z Aa<|Jx.U0 (zP g) Z Aa<|Jx.j1<|AZ Z Aa<|Aj ?_
 refine Jx.Ak (p:=zP g) 1 Ej Z Z Aa<|Jx.Ak (p:=Ao (zP g) 1) (b:=g) (o:=1) 1 BZ Z Z Aa<|Jx.Y2 (p:=Ao (Ao (zP g) 1) 1) rc0 D8 Z (fun wj hj=>(BX.chg (w:=w1.drew) (F:=Fc++Fv) a7 hj fun hm=>(zi.1 hm).elim hgn.1 hgn.2.2).ldp (i:=2) sM) Aa<|Jx.Vn (p:=zP w.heap.size) [zI c.op,zI c.a,zI c.b,zI c.num] DM Z (fun wj hj=>LD.of_box<|BX.chg (w:=w1.drew) (F:=Fc++Fv) bu hj fun hm=>(zi.1 hm).elim (fun h9=>zH<|hS _ (hSc _ h9)) fun h9=>zH<|hS _ (hSv _ h9)) Z Aa<|Jx.U0 (zP g) Z Aa ?_
 refine Jx.j1<|AZ Z Aa<|Aj ?_
 refine Jx.Ak (p:=zP g) 5 CW Z Z Aa<|Jx.Y2 (p:=Ao (zP g) 5) rv0 BA Z (fun wj hj=>(BX.chg (w:=w1.drew) (F:=Fc++Fv) a7 hj fun hm=>(zi.1 hm).elim hgn.1 hgn.2.2).ldp (i:=5) sM) Aa<|Jx.U0 (zI v) Z Aa<|Jx.Aj ⟨?_,?_⟩
 ·refine Jx.Yl<|ET (cs:=[zI c.op,zI c.a,zI c.b,zI c.num]) (y:=c) (B:=w1.heap.size) AL Id DN Z (by decide) Z (Q3 (U:=w1.heap.size) hc) (A7 _) Aa ?_
  intro v4 w4 ao eq d8
  refine Aj ?_
  have du:w1.heap.size≤w4.heap.size:=ao.size
  have az:=Ow.ext (w:=w1.drew) (As AL) hOc ao
  have b0:=Ow.ext (w:=w1.drew) (AY AI) hOv ao
  have b1:=Ow.ext (w:=w1.drew) (As AT) hOg ao
  have d9:=BX.ext (w:=w1.drew) a7 ao
  have da:At S w w4:=d6.drew.ext ao
  have db:=d7.drew.ext ao
  refine Jx.Aj ⟨?_,?_⟩
  ·refine Jx.Z6<|KZ (v:=rc0) (a:=v4) AL Id DN Z (by decide) Z Z az d8 oM (Nat.zero_le _) (Nat.zero_le _) oM (by unfold maxLen;omega) Aa ?_
   intro v5 w5 F5 ap dv b2
   refine Aj ⟨At.sub ap fun b hb=>z8 _ hb,?_⟩
   have dw:w4.heap.size≤w5.heap.size:=ap.size
   have bv:=b0.keep (AY AI) ap fun b hb hm=>hdj.2.1 b hb hm
   have bw:=b1.keep (As AT) ap fun b hb hm=>hdj.1 b hb hm
   have dx:=BX.chg d9 ap hgn.1
   have dy:At S w w5:=da.trans (ap.sub hSc)
   have dz:=db.more ap hSc
   refine Jx.Yl<|BI (u:=zI v) (B:=w5.heap.size) AI Bm BC Z Z (KL w5.heap.size w5.heap.size _ _ _hv) (A7 _) Aa ?_
   intro v6 w6 aq er e0
   refine Aj ?_
   have e1:w5.heap.size≤w6.heap.size:=aq.size
   have bx:=Ow.ext (w:=w5) (As AL) dv aq
   have bz:=Ow.ext (w:=w5) (AY AI) bv aq
   have c1:=Ow.ext (w:=w5) (As AT) bw aq
   have e2:=BX.ext (w:=w5) dx aq
   have e3:At S w w6:=dy.ext aq
   have e4:=dz.ext aq
   refine Jx.Z6<|Jg (v:=rv0) (a:=v6) Bm BC Z Z Z bz e0.rd1 (Nat.zero_le _) Rh Rg Aa ?_
   intro v7 w7 F7 ar dc br
   refine Aj ⟨At.sub ar fun b hb=>z1 _ hb,?_⟩
   have e5:w6.heap.size≤w7.heap.size:=ar.size
   have au:=bx.keep (As AL) ar fun b hb hm=>by rcases b2 b hm with h9|h9|h9;exact hdj.2.1 b h9 hb;(have:=hOv.high b hb;omega);(have:=hOv.high b hb;omega)
   have c2:=c1.keep (As AT) ar fun b hb hm=>hdj.2.2 b hm hb
   have e6:=BX.chg e2 ar hgn.2.2
   have dd:At S w w7:=e3.trans (ar.sub hSv)
   have es:=e4.more ar hSv
   refine Jx.S0 Z ?_
   have av:C3 52 107 2 (F5++(F7++S)) g w7.heap v5 rg0 v7 (T.put c v):=⟨F5,Fg,F7,au.up oM,c2.up oM,dc,⟨fun b hb hm=>by rcases b2 b hb with h9|h9|h9;exact hdj.1 b h9 hm;(have:=hOg.high b hm;omega);(have:=hOg.high b hm;omega),fun b hb hm=>by rcases br b hm with h8|h8;(rcases b2 b hb with h9|h9|h9;exact hdj.2.1 b h9 h8;(have:=hOv.high b h8;omega);(have:=hOv.high b h8;omega));(have:=au.high b hb;omega),fun b hm hb=>by rcases br b hb with h8|h8;exact hdj.2.2 b hm h8;(have:=hOg.high b hm;omega)⟩,⟨fun hm=>by rcases b2 g hm with h9|h9|h9;exact hgn.1 h9;omega;omega,hgn.2.1,fun hm=>by rcases br g hm with h9|h9;exact hgn.2.2 h9;omega⟩,fun b hb=>z8 _ hb,fun b hb=>z1 _ (z1 _ (hSg b hb)),fun b hb=>z1 _ (z8 _ hb)⟩
   have c3:E9 S (F5++(F7++S)) w w7:=⟨fun b hb=>z1 _ (z1 _ hb),fun b hb=>by rcases zi.1 hb with hb|hb;(rcases b2 b hb with h9|h9|h9;exact .inl (hSc b h9);(right;omega);(right;omega));rcases zi.1 hb with hb|hb;(rcases br b hb with h9|h9;exact .inl (hSv b h9);(right;omega));exact .inl hb,fun b hb=>by rcases zi.1 hb with hb|hb;(have:=au.high b hb;omega);rcases zi.1 hb with hb|hb;(exact dc.high b hb);(have:=hS b hb;omega),dd⟩
   refine AZ Z Aa<|Ak (p:=zP g) 1 Ej Z Z Aa<|Ak (p:=Ao (zP g) 1) (b:=g) (o:=1) 1 BZ Z Z Aa (Bi (k:=2) (w:=w7) V2 Z Z (Bk av.slc) e6 sM Aa fun w9 bs et c4=>?_)
   replace c4:BX w9.heap g [vp,zI ip,v5,rg0,zN,rv0,zI (s0:Int),zI c0]:=c4
   have e7:At S w w9:=dd.trans (bs.sub (B6 hgS))
   have e8:=C3.chg av bs
   have e9:=c3.set hgS bs
   have ea:w7.heap.size≤w9.heap.size:=bs.size
   refine AZ Z Aa<|Ak (p:=zP g) 5 CW Z Z Aa (Bi (k:=5) (w:=w9) P3 Z Z (Bk av.slv) c4 sM Aa fun f2 ae eb af=>?_)
   replace af:BX f2.heap g [vp,zI ip,v5,rg0,zN,v7,zI (s0:Int),zI c0]:=af
   have ec:At S w f2:=e7.trans (ae.sub (B6 hgS))
   have b3:=C3.chg e8 ae
   have c5:=e9.set hgS ae
   have de:w9.heap.size≤f2.heap.size:=ae.size
   exact Aj<|Z1 [0,0,0,2,0,0,0] Z<|Ad 1 Z<|AZ Z Aa<|Ak (p:=zP g) 5 CW Z Z Aa<|Ah (p:=Ao (zP g) 5) (.inr Z) v7 BA Z (af.ldp (i:=5) sM) Aa<|AP (v:=v7) Bm Z (C3.slv b3) Aa<|Br (T.vals.length:Int) Z Z (Ba KG KG) Aa<|Ac 1 Z<|A1<|Ag [6] Z (zI (T.vals.length:Int)) Z ⟨_,(by rfl),c5,⟨_,_,_,af,b3⟩⟩
  refine Jx.Yl<|BI (u:=zI v) (B:=w4.heap.size) AI Bm BC Z Z (KL w4.heap.size w4.heap.size _ _ _hv) (A7 _) Aa ?_
  intro ff f3 a0 ed c6
  refine Aj ?_
  have df:w4.heap.size≤f3.heap.size:=a0.size
  have b4:=Ow.ext (w:=w4) (As AL) az a0
  have b5:=Ow.ext (w:=w4) (AY AI) b0 a0
  have b6:=Ow.ext (w:=w4) (As AT) b1 a0
  have c7:=d8.ext (As AL) a0
  have c8:=BX.ext (w:=w4) d9 a0
  have c9:At S w f3:=da.ext a0
  have ca:=db.ext a0
  refine Jx.Z6<|KZ (v:=rc0) (a:=v4) AL Id DN Z (by decide) Z Z b4 c7 oM (Nat.zero_le _) (Nat.zero_le _) oM (by unfold maxLen;omega) Aa ?_
  intro f4 f5 f6 a1 cb a8
  refine Aj ⟨At.sub a1 fun b hb=>z8 _ hb,?_⟩
  have dg:f3.heap.size≤f5.heap.size:=a1.size
  have b7:=b5.keep (AY AI) a1 fun b hb hm=>hdj.2.1 b hb hm
  have b8:=b6.keep (As AT) a1 fun b hb hm=>hdj.1 b hb hm
  have cc:=c6.chg (o1) a1 fun b hb=>zH<|hOc.high b hb
  have cd:=BX.chg c8 a1 hgn.1
  have ce:At S w f5:=c9.trans (a1.sub hSc)
  have cf:=ca.more a1 hSc
  refine Jx.Z6<|Jg (v:=rv0) (a:=ff) Bm BC Z Z Z b7 cc.rd1 (Nat.zero_le _) Rh Rg Aa ?_
  intro f0 ew f7 a4 b9 ag
  refine Aj ⟨At.sub a4 fun b hb=>z1 _ hb,?_⟩
  have dh:f5.heap.size≤ew.heap.size:=a4.size
  have a9:=cb.keep (As AL) a4 fun b hb hm=>by rcases a8 b hm with h9|h9|h9;exact hdj.2.1 b h9 hb;(have:=hOv.high b hb;omega);(have:=hOv.high b hb;omega)
  have ba:=b8.keep (As AT) a4 fun b hb hm=>hdj.2.2 b hm hb
  have cg:=BX.chg cd a4 hgn.2.2
  have bb:At S w ew:=ce.trans (a4.sub hSv)
  have ee:=cf.more a4 hSv
  refine Jx.S0 Z ?_
  have aa:C3 52 107 2 (f6++(f7++S)) g ew.heap f4 rg0 f0 (T.put c v):=⟨f6,Fg,f7,a9.up oM,ba.up oM,b9,⟨fun b hb hm=>by rcases a8 b hb with h9|h9|h9;exact hdj.1 b h9 hm;(have:=hOg.high b hm;omega);(have:=hOg.high b hm;omega),fun b hb hm=>by rcases ag b hm with h8|h8;(rcases a8 b hb with h9|h9|h9;exact hdj.2.1 b h9 h8;(have:=hOv.high b h8;omega);(have:=hOv.high b h8;omega));(have:=a9.high b hb;omega),fun b hm hb=>by rcases ag b hb with h8|h8;exact hdj.2.2 b hm h8;(have:=hOg.high b hm;omega)⟩,⟨fun hm=>by rcases a8 g hm with h9|h9|h9;exact hgn.1 h9;omega;omega,hgn.2.1,fun hm=>by rcases ag g hm with h9|h9;exact hgn.2.2 h9;omega⟩,fun b hb=>z8 _ hb,fun b hb=>z1 _ (z1 _ (hSg b hb)),fun b hb=>z1 _ (z8 _ hb)⟩
  have bc:E9 S (f6++(f7++S)) w ew:=⟨fun b hb=>z1 _ (z1 _ hb),fun b hb=>by rcases zi.1 hb with hb|hb;(rcases a8 b hb with h9|h9|h9;exact .inl (hSc b h9);(right;omega);(right;omega));rcases zi.1 hb with hb|hb;(rcases ag b hb with h9|h9;exact .inl (hSv b h9);(right;omega));exact .inl hb,fun b hb=>by rcases zi.1 hb with hb|hb;(have:=a9.high b hb;omega);rcases zi.1 hb with hb|hb;(exact b9.high b hb);(have:=hS b hb;omega),bb⟩
  refine AZ Z Aa<|Ak (p:=zP g) 1 Ej Z Z Aa<|Ak (p:=Ao (zP g) 1) (b:=g) (o:=1) 1 BZ Z Z Aa (Bi (k:=2) (w:=ew) V2 Z Z (Bk aa.slc) cg sM Aa fun ey ah ef aw=>?_)
  replace aw:BX ey.heap g [vp,zI ip,f4,rg0,zN,rv0,zI (s0:Int),zI c0]:=aw
  have ch:At S w ey:=bb.trans (ah.sub (B6 hgS))
  have ci:=C3.chg aa ah
  have cj:=bc.set hgS ah
  have di:ew.heap.size≤ey.heap.size:=ah.size
  refine AZ Z Aa<|Ak (p:=zP g) 5 CW Z Z Aa (Bi (k:=5) (w:=ey) P3 Z Z (Bk aa.slv) aw sM Aa fun f8 ai eg aj=>?_)
  replace aj:BX f8.heap g [vp,zI ip,f4,rg0,zN,f0,zI (s0:Int),zI c0]:=aj
  have eh:At S w f8:=ch.trans (ai.sub (B6 hgS))
  have bd:=C3.chg ci ai
  have ck:=cj.set hgS ai
  have dj:ey.heap.size≤f8.heap.size:=ai.size
  exact Aj<|Z1 [0,0,0,2,0,0,0] Z<|Ad 1 Z<|AZ Z Aa<|Ak (p:=zP g) 5 CW Z Z Aa<|Ah (p:=Ao (zP g) 5) (.inr Z) f0 BA Z (aj.ldp (i:=5) sM) Aa<|AP (v:=f0) Bm Z (C3.slv bd) Aa<|Br (T.vals.length:Int) Z Z (Ba KG KG) Aa<|Ac 1 Z<|A1<|Ag [6] Z (zI (T.vals.length:Int)) Z ⟨_,(by rfl),ck,⟨_,_,_,aj,bd⟩⟩
 refine Jx.Yl<|BI (u:=zI v) (B:=w1.heap.size) AI Bm BC Z Z (KL w1.heap.size w1.heap.size _ _ _hv) (A7 _) Aa ?_
 intro fg eu a5 ei cl
 refine Aj ?_
 have dk:w1.heap.size≤eu.heap.size:=a5.size
 have be:=Ow.ext (w:=w1.drew) (As AL) hOc a5
 have bf:=Ow.ext (w:=w1.drew) (AY AI) hOv a5
 have bg:=Ow.ext (w:=w1.drew) (As AT) hOg a5
 have cm:=BX.ext (w:=w1.drew) a7 a5
 have cn:At S w eu:=d6.drew.ext a5
 have co:=d7.drew.ext a5
 refine Jx.Yl<|ET (cs:=[zI c.op,zI c.a,zI c.b,zI c.num]) (y:=c) (B:=eu.heap.size) AL Id DN Z (by decide) Z (Q3 (U:=eu.heap.size) hc) (A7 _) Aa ?_
 intro fh f9 a2 ej cp
 refine Aj ?_
 have dl:eu.heap.size≤f9.heap.size:=a2.size
 have bh:=Ow.ext (w:=eu) (As AL) be a2
 have bi:=Ow.ext (w:=eu) (AY AI) bf a2
 have bj:=Ow.ext (w:=eu) (As AT) bg a2
 have cq:=cl.ext (o1) a2
 have cr:=BX.ext (w:=eu) cm a2
 have ct:At S w f9:=cn.ext a2
 have cu:=co.ext a2
 refine Jx.Z6<|KZ (v:=rc0) (a:=fh) AL Id DN Z (by decide) Z Z bh cp oM (Nat.zero_le _) (Nat.zero_le _) oM (by unfold maxLen;omega) Aa ?_
 intro fa fb fc a3 cv ab
 refine Aj ⟨At.sub a3 fun b hb=>z8 _ hb,?_⟩
 have dm:f9.heap.size≤fb.heap.size:=a3.size
 have bk:=bi.keep (AY AI) a3 fun b hb hm=>hdj.2.1 b hb hm
 have bl:=bj.keep (As AT) a3 fun b hb hm=>hdj.1 b hb hm
 have cw:=cq.chg (o1) a3 fun b hb=>zH<|hOc.high b hb
 have cx:=BX.chg cr a3 hgn.1
 have cy:At S w fb:=ct.trans (a3.sub hSc)
 have cz:=cu.more a3 hSc
 refine Jx.Z6<|Jg (v:=rv0) (a:=fg) Bm BC Z Z Z bk cw.rd1 (Nat.zero_le _) Rh Rg Aa ?_
 intro f1 ex fd a6 bm ak
 refine Aj ⟨At.sub a6 fun b hb=>z1 _ hb,?_⟩
 have dn:fb.heap.size≤ex.heap.size:=a6.size
 have ac:=cv.keep (As AL) a6 fun b hb hm=>by rcases ab b hm with h9|h9|h9;exact hdj.2.1 b h9 hb;(have:=hOv.high b hb;omega);(have:=hOv.high b hb;omega)
 have bn:=bl.keep (As AT) a6 fun b hb hm=>hdj.2.2 b hm hb
 have d0:=BX.chg cx a6 hgn.2.2
 have bo:At S w ex:=cy.trans (a6.sub hSv)
 have ek:=cz.more a6 hSv
 refine Jx.S0 Z ?_
 have ad:C3 52 107 2 (fc++(fd++S)) g ex.heap fa rg0 f1 (T.put c v):=⟨fc,Fg,fd,ac.up oM,bn.up oM,bm,⟨fun b hb hm=>by rcases ab b hb with h9|h9|h9;exact hdj.1 b h9 hm;(have:=hOg.high b hm;omega);(have:=hOg.high b hm;omega),fun b hb hm=>by rcases ak b hm with h8|h8;(rcases ab b hb with h9|h9|h9;exact hdj.2.1 b h9 h8;(have:=hOv.high b h8;omega);(have:=hOv.high b h8;omega));(have:=ac.high b hb;omega),fun b hm hb=>by rcases ak b hb with h8|h8;exact hdj.2.2 b hm h8;(have:=hOg.high b hm;omega)⟩,⟨fun hm=>by rcases ab g hm with h9|h9|h9;exact hgn.1 h9;omega;omega,hgn.2.1,fun hm=>by rcases ak g hm with h9|h9;exact hgn.2.2 h9;omega⟩,fun b hb=>z8 _ hb,fun b hb=>z1 _ (z1 _ (hSg b hb)),fun b hb=>z1 _ (z8 _ hb)⟩
 have bp:E9 S (fc++(fd++S)) w ex:=⟨fun b hb=>z1 _ (z1 _ hb),fun b hb=>by rcases zi.1 hb with hb|hb;(rcases ab b hb with h9|h9|h9;exact .inl (hSc b h9);(right;omega);(right;omega));rcases zi.1 hb with hb|hb;(rcases ak b hb with h9|h9;exact .inl (hSv b h9);(right;omega));exact .inl hb,fun b hb=>by rcases zi.1 hb with hb|hb;(have:=ac.high b hb;omega);rcases zi.1 hb with hb|hb;(exact bm.high b hb);(have:=hS b hb;omega),bo⟩
 refine AZ Z Aa<|Ak (p:=zP g) 1 Ej Z Z Aa<|Ak (p:=Ao (zP g) 1) (b:=g) (o:=1) 1 BZ Z Z Aa (Bi (k:=2) (w:=ex) V2 Z Z (Bk ad.slc) d0 sM Aa fun ez al el ax=>?_)
 replace ax:BX ez.heap g [vp,zI ip,fa,rg0,zN,rv0,zI (s0:Int),zI c0]:=ax
 have d1:At S w ez:=bo.trans (al.sub (B6 hgS))
 have d2:=C3.chg ad al
 have d3:=bp.set hgS al
 have dp:ex.heap.size≤ez.heap.size:=al.size
 refine AZ Z Aa<|Ak (p:=zP g) 5 CW Z Z Aa (Bi (k:=5) (w:=ez) P3 Z Z (Bk ad.slv) ax sM Aa fun fe am em an=>?_)
 replace an:BX fe.heap g [vp,zI ip,fa,rg0,zN,f1,zI (s0:Int),zI c0]:=an
 have en:At S w fe:=d1.trans (am.sub (B6 hgS))
 have bq:=C3.chg d2 am
 have d4:=d3.set hgS am
 have dq:ez.heap.size≤fe.heap.size:=am.size
 exact Aj<|Z1 [0,0,0,2,0,0,0] Z<|Ad 1 Z<|AZ Z Aa<|Ak (p:=zP g) 5 CW Z Z Aa<|Ah (p:=Ao (zP g) 5) (.inr Z) f1 BA Z (an.ldp (i:=5) sM) Aa<|AP (v:=f1) Bm Z (C3.slv bq) Aa<|Br (T.vals.length:Int) Z Z (Ba KG KG) Aa<|Ac 1 Z<|A1<|Ag [6] Z (zI (T.vals.length:Int)) Z ⟨_,(by rfl),d4,⟨_,_,_,an,bq⟩⟩
def XW (F d:Nat):Prop:=∀(w:World) (S:List Nat) (g:Nat) (vp:Value) (dp:Nat) (ip:Int) (s0:Nat) (c0:Int) (p:List Fn) (T:Tp) (ve:Value) (ex:Ex) (vv:Value) (env:List Int) (hS:∀b∈S,b<w.heap.size) (hgS:g∈S) (hR0:P6 52 107 2 S g w.heap vp ip T s0 c0) (hp:RP S dp w.heap vp p) (_hip:Bn ip) (hs0:s0≤3000) (hc0:0≤c0∧c0≤9) (hbd:Ia T s0) (hex:RX S d w.heap ve ex) (henv:RN S (B4 rI) w.heap vv env) (hqenv:CD vv)
  (hvp:Lv p) (hF:F≤p.length) (hwf:wf p ((F:Nat):Int) ex ((env.length:Nat):Int)=true) (hdp:env.length+ex.deep≤1000000) (hen:c0=0→Ir T env),
  Calls Tryz.prog 117 #[.pointer (some ⟨g,0,none⟩),.agg #[.int .i64 ex.kind,.int .i64 ex.num,.int .i64 ex.pick,.int .i64 ex.count,ve],vv] w (fun e w'=>∃(r:Int) (S':List Nat) (T':Tp) (s1:Nat) (c1:Int),e=.returned (.int .i64 r)∧E9 S S' w w'∧P6 52 107 2 S' g w'.heap vp ip T' s1 c1∧Te T T' s0 s1 c1∧(c1=0→0≤r∧r<((T'.vals.length:Nat):Int))∧(Bn r)∧AN (go c0 (Fp (Iz p F) ex env s0 T)) (r,T') s1 c1)
def Za (F d:Nat):Prop:=∀(w:World) (S:List Nat) (g:Nat) (vp:Value) (dp:Nat) (ip:Int) (s0:Nat) (c0:Int) (p:List Fn) (T:Tp) (vl:Value) (l:List Ex) (vv:Value) (env:List Int) (hS:∀b∈S,b<w.heap.size) (hgS:g∈S) (hR0:P6 52 107 2 S g w.heap vp ip T s0 c0) (hp:RP S dp w.heap vp p) (_hip:Bn ip) (hs0:s0≤3000) (hc0:0≤c0∧c0≤9) (hbd:Ia T s0) (hl:RN S (Cx 5 (KO d)) w.heap vl l) (henv:RN S (B4 rI) w.heap vv env) (hqenv:CD vv)
  (hvp:Lv p) (hF:F≤p.length) (hwf:∀k,k<l.length→wf p ((F:Nat):Int) (l.getD k Ex.zero) ((env.length:Nat):Int)=true) (hdp:∀k,k<l.length→env.length+(l.getD k Ex.zero).deep≤1000000) (hll:l.length≤1000000) (hen:c0=0→Ir T env),
  Calls Tryz.prog 55 #[.pointer (some ⟨g,0,none⟩),vl,vv] w (fun e w'=>∃(v:Value) (xs:List Int) (S':List Nat) (T':Tp) (s1:Nat) (c1:Int),e=.returned v∧E9 S S' w w'∧P6 52 107 2 S' g w'.heap vp ip T' s1 c1∧Te T T' s0 s1 c1∧OQ S' w.heap.size (B4 rI) w'.heap v xs∧CD v∧xs.length=l.length∧(c1=0→Ir T' xs)∧AN (go c0 (Gg (Iz p F) l env s0 T)) (xs,T') s1 c1)
theorem Gt (w:World)(S:List Nat)(F:Nat)(g:Nat)(vp:Value)(dp:Nat)(ip:Int)(s0:Nat)(c0:Int)(p:List Fn)(T:Tp)(dl:Nat)(vl:Value)(l:List Ex)(vv:Value)(env:Sr)(hS:∀b∈S,b<w.heap.size)(hgS:g∈S)(hR0:P6 52 107 2 S g w.heap vp ip T s0 c0)(hp:RP S dp w.heap vp p)(_hip:Bn ip)(hs0:s0≤3000)(hc0:0≤c0∧c0≤9)(hbd:Ia T s0)(hl:RN S (Cx 5 (KO dl)) w.heap vl l)(henv:RN S (B4 rI) w.heap vv env)(hqenv:CD vv)(hvp:Lv p)(hF:F≤p.length)(hwf:∀k,k<l.length→wf p (F:Int) (l.getD k Ex.zero) (env.length:Int)=true)(hdp:∀k,k<l.length→env.length+(l.getD k Ex.zero).deep≤1000000)(hll:l.length≤1000000)(hen:c0=0→Ir T env)(IHv:∀d',d'<dl→XW F d') :
  Calls Tryz.prog 55 #[zP g,vl,vv] w (fun e w'=>∃(v:Value) (xs:Sr) (S':List Nat) (T':Tp) (s1:Nat) (c1:Int),e=.returned v∧E9 S S' w w'∧P6 52 107 2 S' g w'.heap vp ip T' s1 c1∧Te T T' s0 s1 c1∧OQ S' w.heap.size (B4 rI) w'.heap v xs∧CD v∧xs.length=l.length∧(c1=0→Ir T' xs)∧AN (go c0 (Gg (Iz p F) l env s0 T)) (xs,T') s1 c1):=by
 refine Ap [zP g,vl,vv] 26 Tryz.func55 Z Z sM ?_
 have bd:At S w w:=At.refl S w
 have ce:=hp.lenle
 unfold maxLen at ce
 have cf:=hl.lenle
 unfold maxLen at cf
 have cg:=henv.lenL
 unfold maxLen at cg
 obtain⟨rc0,rg0,rv0,be,bf⟩:=hR0
 have cu:=be.lt
 have hG0:E9 S S w w:=E9.refl hS
 refine Z2 Z<|Z1 [3,0] Z (CH (rI) AI Bm BC Aa fun v1 w1 ab bs bg=>?_)
 have ao:w.heap.size≤w1.heap.size:=ab.size
 have bh:At S w w1:=bd.ext ab
 have ae:=be.ext ab
 have bi:=C3.ext bf ab
 have bj:=hG0.ext ab
 refine Ac 1 Z<|A0<|Z1 [0,0,0] Z<|Ad 1 Z<|AP (v:=vl) CR Z hl.isSl Aa<|Ac 1 Z<|A3 ?_
 obtain⟨Fo0,af⟩:=Ow.of_fr bg (A7 _)
 have ap:∀b∈Fo0,b∉S:=fun b hb hm=>by have:=af.low b hb;have:=hS b hm;omega
 have hMs:=bi
 have hGs:=bj
 refine AV (S:=Nat×Value×Sr×List Nat×List Nat×Tp×Nat×Int×Value×Value×Value) (fun⟨k,vo,xs,Fo,S9,T9,s9,c9,ch,vg9,vv9⟩=>([(7,vo),(13,zI (k:Int)),(0,zP g),(2,vv),(11,vl),(12,zI (l.length:Int))])) (fun⟨k,vo,xs,Fo,S9,T9,s9,c9,ch,vg9,vv9⟩ W=>At S w W∧BX W.heap g [vp,zI ip,ch,vg9,zN,vv9,zI (s9:Int),zI c9]∧k≤l.length∧E9 S S9 w W∧C3 52 107 2 S9 g W.heap ch vg9 vv9 T9∧Te T T9 s0 s9 c9∧Ow (B8 rI 2) w.heap.size W.heap.size W.heap vo xs Fo∧(∀b∈Fo,b∉S9)∧xs.length=k∧(c9=0→c0=0)∧(c9=0→Ir T9 xs)∧AN (go c0<|Gg (Iz p F) (l.take k) env s0 T) (xs,T9) s9 c9) (fun⟨k,vo,xs,Fo,S9,T9,s9,c9,ch,vg9,vv9⟩=>l.length-k) (0,v1,[],Fo0,S,T,s0,c0,rc0,rg0,rv0) ⟨rfl,rfl,rfl,rfl,rfl,rfl,trivial⟩ ⟨bh,ae,sD,hGs,hMs,(by exact⟨hbd,zO⟩),af,ap,(by rfl),(by exact fun h=>h),(by exact fun _=>Ir.nil _),(by exact Q7 _ _ _ _ _ _)⟩ ?_
 clear bd bf hG0 bg bs ab ao bh bi bj
 rintro⟨k,vo,xs,Fo,S9,T9,s9,c9,ch,vg9,vv9⟩ ρ3 w3 ⟨aq,a3,bk,hGl,hMl,hPl,hOl,hdl,hxl,hzl,hxb,hrl⟩
 have bt:w.heap.size≤w3.heap.size:=aq.size
 have c7:=a3.lt
 have hnl:=hPl.num
 have hbl:=hPl.bnd
 refine Z1 [0] Z ?_
 by_cases bl:(k:Int)<(l.length:Int)
 ·refine AC true Z Z (A5 bl) Aa<|Aj<|A0<|Af Z<|A2<|A0<|A3<|Z1 [0,2,3,4] Z ?_
  have hkl:k<l.length:=by omega
  refine Az (v:=vl) k CR Bp Z Z hl.isSl Z sD Aa ?_
  obtain⟨cs6,bu,bv⟩:=hl.get (AD dl) Ex.zero (k:=k) sD
  obtain⟨dd6,ac,c8,rfl,am⟩:=RX.of bu
  have ar:=am.rn.lenle
  unfold maxLen at ar
  refine AO (p:=Ay vl k 5) (.inr Z) [zI<|(l.getD k Ex.zero).kind,zI<|(l.getD k Ex.zero).num,zI<|(l.getD k Ex.zero).pick,zI<|(l.getD k Ex.zero).count,ac] B7 Z (fun cl au=>bv cl<|aq.ext au) Z Aa ?_
  have ca:=a3.lt
  refine Bj (z:=.agg #[zI 0,zI 0,zI 0,zI 0,zN]) GE Aa fun w7 ad cb av=>?_
  have bw:w3.heap.size≤w7.heap.size:=ad.size
  have bx:At S w w7:=aq.ext ad
  have a7:=a3.ext ad
  have bz:=C3.ext hMl ad
  have c2:=hGl.ext ad
  have hO10k:=hOl.ext (AY AI) ad
  replace av:BX w7.heap w3.heap.size [zI 0,zI 0,zI 0,zI 0,zN]:=av
  refine Bw (vs:=[zI<|(l.getD k Ex.zero).kind,zI<|(l.getD k Ex.zero).num,zI<|(l.getD k Ex.zero).pick,zI<|(l.getD k Ex.zero).count,ac]) B7 Z Z am.ones av Z Z Aa fun cc a4 c3 a8=>?_
  replace a8:BX cc.heap w3.heap.size [zI ((l.getD k Ex.zero).kind),zI ((l.getD k Ex.zero).num),zI ((l.getD k Ex.zero).pick),zI ((l.getD k Ex.zero).count),ac]:=a8
  have a9:At S w cc:=bx.fresh a4 (fun _ h=>zE h)
  have aw:=C3.chgO bz a4 fun b hb hm=>by rw[A9 hb]at hm;exact(zH<|hGl.lt _ hm)
  have a1:=c2.fresh a4 fun _ h=>zE h
  have bm:w7.heap.size≤cc.heap.size:=a4.size
  have ax:=a7.chg a4 (zB ·)
  have ag:=hO10k.keep (AY AI) a4 fun b hb hm=>by have:=A9 hb;have:=hO10k.low _ hm;have:=hO10k.high _ hm;omega
  refine Aj<|Ab _ [0,0,2,0,4,3,4,0] Z<|Ad 2 Z<|AO (p:=zP w3.heap.size) (.inr Z) [zI<|(l.getD k Ex.zero).kind,zI<|(l.getD k Ex.zero).num,zI<|(l.getD k Ex.zero).pick,zI<|(l.getD k Ex.zero).count,ac] B7 Z (fun cl au=>LD.of_box<|BX.ext (w:=cc) a8 au) Z Aa<|Ad 1 Z ?_
  refine AA 117 [] [] [zP g,.agg #[zI<|(l.getD k Ex.zero).kind,zI<|(l.getD k Ex.zero).num,zI<|(l.getD k Ex.zero).pick,zI<|(l.getD k Ex.zero).count,ac],vv] Z Z Jt Aa (IHv dd6 oM _ S9 g vp dp ip (s9) (c9) p (T9) ac (l.getD k Ex.zero) vv (env) (fun b hb=>(a1.lt b hb:b<cc.heap.size)) (a1.sub _ hgS) ⟨_,_,_,ax,aw⟩ (RN.stp (An<|AH dp) hp a9 a1.new) _hip oM oM hbl ⟨am.rng,RN.stp (An<|AD dd6) am.rn a9 a1.new⟩ (RN.stp g1 henv a9 a1.new) hqenv hvp oM (by exact hwf k hkl) (by exact hdp k hkl) (by intro h9;exact(hen<|hzl h9).mono oM)) ?_
  rintro cw cd ⟨cm,ci,cn,co,cp,rfl,a0,⟨cj,vg18,vv18,ay,az⟩,ah,ai,aj,ak⟩
  refine⟨_,rfl,?_⟩
  have bn:cc.heap.size≤cd.heap.size:=a0.chg.size
  have b0:At S w cd:=a9.stp a0.chg a1.new
  have b1:=ag.keep (AY AI) a0.chg fun b hb hm=>hdl b hm hb
  have a5:∀b∈Fo,b∉ci:=fun b hb hm=>(a0.new b hm).elim (hdl b hb) (fun h9=>zH<|ag.high b hb)
  have b2:=a8.chg a0.chg fun hm=>(zH<|hGl.lt _ hm)
  have b3:w3.heap.size∉ci:=fun hm=>(a0.new _ hm).elim (fun hm=>(zH<|hGl.lt _ hm)) (fun h9=>by omega)
  have b4:=a1.trans a0
  have bo:=ah.bnd
  have bp:=ah.num
  have hcz:=fun h9=>Vw ak h9
  have hrv:=ai
  refine (BI (u:=zI cm) (B:=cd.heap.size) AI Bm BC Z Z (KL cd.heap.size cd.heap.size _ _ aj) (A7 _) Aa ?_)
  intro cs ck a2 c4 b5
  have bq:cd.heap.size≤ck.heap.size:=a2.size
  have b6:At S w ck:=b0.ext a2
  have aa:=ay.ext a2
  have an:=b2.ext a2
  have b7:=C3.ext az a2
  have al:=b4.ext a2
  have hO29k:=b1.ext (AY AI) a2
  refine Jg (v:=vo) (a:=cs) Bm BC Z Z Z hO29k b5.rd1 oM sD (by unfold maxLen;first|omega|assumption|(simp;done)|(simp;omega)) Aa fun ct cq cr a6 c5 b8=>?_
  have br:ck.heap.size≤cq.heap.size:=a6.size
  have b9:At S w cq:=b6.fresh a6 (fun c hc=>zH<|hO29k.low c hc)
  have c6:∀b∈cr,b∉ci:=fun b hb hm=>(b8 b hb).elim (fun h9=>a5 b h9 hm) (fun h9=>zH<|al.lt b hm)
  have ba:=C3.chgO b7 a6 a5
  have bb:=al.fresh a6 fun c hc=>zH<|hO29k.low c hc
  have bc:=aa.chg a6 fun hm=>zH<|hO29k.low _ hm
  refine Ac 1 Z<|Ab _ [0,0] Z<|AM ((k+1:Nat):Int) Z Z (Ba oM oM) Aa<|Ac 1 Z ?_
  have hMe:=ba
  have hGe:=bb
  have hPe:Te T cn s0 co cp:=⟨by assumption,zO⟩
  exact⟨(k+1,ct,xs++[cm],cr,ci,cn,co,cp,cj,vg18,vv18),_,rfl,zR,⟨b9,bc,sD,hGe,hMe,hPe,(by assumption),(by assumption),(by rw[z4,zd,hxl]),(by exact fun h9=>hzl (hcz h9)),(by exact fun h9=>Ir.snoc ((hxb (hcz h9)).mono oM) (hrv h9)),(by exact Se oM hrl (by assumption))⟩,zD⟩
 exact AC false Z Z (A6 bl) Aa<|Aj<|A0<|Ai Z<|A4<|Av<|Av<|Aq<|Z1 [0,0] Z<|Ac 2 Z<|A1<|Ag [6] Z vo Z ⟨vo,xs,_,T9,s9,c9,rfl,hGl,⟨_,_,_,a3,hMl⟩,⟨hbl,oM⟩,OQ.of_ow hOl hdl,hOl.fr.cap,oM,hxb,(by rw[za oM]at hrl;exact hrl)⟩
theorem DL (w:World)(v:Value)(n:Nat)(hs:Ek v n)(hcs:CD v)  :
  Calls Tryz.prog 171 #[v] w (fun e w'=>e=.returned (Hr v)∧w'=w):=by
 refine Ap [v] 9 Tryz.func171 Z Z sM ?_
 have a0:w=w:=rfl
 exact Z2 Z<|Z1 [0,0,0,0,0,0,0] Z<|Ad 2 Z<|AP (v:=v) Bm Z hs Aa<|Ad 1 Z<|AP (v:=v) Bm Z hs Aa<|U5 (v:=v) Bm BC Z hs Z Z hcs Aa<|Ac 1 Z<|A1<|Ag [2] Z (Hr v) Z ⟨rfl,a0⟩
theorem Ih {p:Prop}(h:p:=by first|rw[(Q8 (k:=c_op) (a:=a) (b:=b) oM).1,(Q8 (k:=c_op) (a:=a) (b:=b) oM).2] <;> rfl|rw[(Q9 (k:=c_op) (a:=a) (b:=b) oM).1,(Q9 (k:=c_op) (a:=a) (b:=b) oM).2] <;> rfl|rw[(Qa (k:=c_op) (a:=a) (b:=b) oM).1,(Qa (k:=c_op) (a:=a) (b:=b) oM).2] <;> rfl|rw[(Qb (k:=c_op) (a:=a) (b:=b) oM).1,(Qb (k:=c_op) (a:=a) (b:=b) oM).2] <;> rfl|rw[(O0 (k:=c_op) (a:=a) (b:=b) oM oM).1,(O0 (k:=c_op) (a:=a) (b:=b) oM oM).2] <;> rfl|rw[(Qc (k:=c_op) (a:=a) (b:=b) oM oM).1,(Qc (k:=c_op) (a:=a) (b:=b) oM oM).2] <;> rfl):p:=h
theorem Fw (w:World)(c_op c_a c_b c_n:Int)(a:Int)(b:Int)(_hc_op:Bn c_op)(_hc_a:Bn c_a)(_hc_b:Bn c_b)(_hc_n:Bn c_n)(_ha:Bn a)(_hb:Bn b)(hop:3≤c_op∧c_op≤7) :
  Calls Tryz.prog 118 #[(.agg #[(zI c_op),(zI c_a),(zI c_b),(zI c_n)]),zI a,zI b] w (fun e w'=>e=.returned (.tuple #[zI (if Dk c_op b then 0 else Fy c_op a b),.bool (!decide (Dk c_op b))])∧AE w w'):=by
 refine Ap [.agg #[zI c_op,zI c_a,zI c_b,zI c_n],zI a,zI b] 35 Tryz.func118 Z Z sM ?_
 have a8:AE w w:=AE.refl w
 refine Z1 [3,0,0] Z (Bx (cs:=#[zI c_op,zI c_a,zI c_b,zI c_n]) Z Aa fun w1 a3 aa a2=>?_)
 have a9:=a3.size
 have a0:=a8.trans a3
 replace a2:BX w1.heap w.heap.size [zI c_op,zI c_a,zI c_b,zI c_n]:=a2
 refine Ac 2 Z<|A0<|Z1 [0,2] Z<|Ak (p:=zP w.heap.size) 0 Fd Z Z Aa<|Ah (p:=Ao (zP w.heap.size) 0) (.inr Z) (zI c_op) AB Z (a2.ldp (i:=0) sM) Aa<|Aj<|A3<|Z1 [0,0] Z ?_
 by_cases a4:c_op=((3:Nat):Int)
 ·refine Al true Z Z (A5 a4) Aa<|Ac 1 Z<|Af Z<|Z1 [0,0,0,0,0] Z<|Ad 2 Z<|Ax 173 [] [] [zI a,zI b] Z Z QP Aa (zI<|md (a+b)) (fun wq=>FS wq _ _ _ha _hb)<|Ac 2 Z<|A1<|AF<|Am ?_
  exact Ag [6,7] Z (.tuple #[zI<|md (a+b),.bool true]) Z ⟨Ih,a0⟩
 refine Al false Z Z (A6 a4) Aa<|Ac 1 Z<|Ai Z<|Z1 [0,0] Z ?_
 by_cases a5:c_op=((4:Nat):Int)
 ·refine Al true Z Z (A5 a5) Aa<|Ac 1 Z<|Af Z<|Z1 [0,0,0,0,0] Z<|Ad 2 Z<|Ax 174 [] [] [zI a,zI b] Z Z QQ Aa (zI<|md (a-b)) (fun wq=>Ff wq _ _ _ha _hb)<|Ac 2 Z<|A1<|AF<|Am ?_
  exact Ag [6,7] Z (.tuple #[zI<|md (a-b),.bool true]) Z ⟨Ih,a0⟩
 refine Al false Z Z (A6 a5) Aa<|Ac 1 Z<|Ai Z<|Z1 [0,0] Z ?_
 by_cases a6:c_op=((5:Nat):Int)
 ·refine Al true Z Z (A5 a6) Aa<|Ac 1 Z<|Af Z<|Z1 [0,0,0,0,0] Z<|Ad 2 Z<|Ax 175 [] [] [zI a,zI b] Z Z TA Aa (zI<|md (a*b)) (fun wq=>HU wq _ _ _ha _hb)<|Ac 2 Z<|A1<|AF<|Am ?_
  exact Ag [6,7] Z (.tuple #[zI<|md (a*b),.bool true]) Z ⟨Ih,a0⟩
 refine Al false Z Z (A6 a6) Aa<|Ac 1 Z<|Ai Z<|Z1 [0,0] Z ?_
 by_cases a7:c_op=((7:Nat):Int)
 ·refine Al true Z Z (A5 a7) Aa<|Ac 1 Z<|Af Z<|Z1 [0,0,0,0] Z<|Ad 1 Z<|Ax 174 [] [] [zI ((0:Nat):Int),zI a] Z Z QQ Aa (zI<|md (((0:Nat):Int)-a)) (fun wq=>Ff wq _ _ oM _ha)<|Ac 2 Z<|A1<|AF<|Am ?_
  exact Ag [6,7] Z (.tuple #[zI<|md (((0:Nat):Int)-a),.bool true]) Z ⟨Ih,a0⟩
 refine Al false Z Z (A6 a7) Aa<|Ac 1 Z<|Ai Z<|A2<|A0<|Z1 [0,0] Z<|Ad 1 Z ?_
 by_cases a1:b=((0:Nat):Int)
 ·refine Al true Z Z (A5 a1) Aa<|Aj<|Af Z<|Z1 [0,0] Z<|Ac 2 Z<|A1<|Am ?_
  exact Ag [6,7] Z (.tuple #[zI ((0:Nat):Int),.bool false]) Z ⟨Ih,a0⟩
 refine Al false Z Z (A6 a1) Aa<|Aj<|Ai Z<|A2<|Z1 [0,0,0,0,0,0] Z<|Ad 2 Z<|Ax 176 [] [] [zI b] Z Z TB Aa (zI<|inv b) (fun wq=>FU wq _ _hb)<|Ax 175 [] [] [zI a,zI<|inv b] Z Z TA Aa (zI<|md (a*(inv b))) (fun wq=>HU wq _ _ _ha<|NE _)<|Ac 2 Z<|A1 ?_
 exact Ag [6,7] Z (.tuple #[zI<|md (a*(inv b)),.bool true]) Z ⟨Ih,a0⟩
theorem Lq {p:Prop}(h:p:=by first|exact Sg hc00 oM (Vx (by assumption))|exact Sh hc00 oM (Ym (by assumption))|exact Si hc00 oM|exact absurd (Vx (Q:=Dk op _) (by assumption)) (Td oM)):p:=h
theorem Lr {p:Prop}(h:p:=by first|(intro h9;exact absurd h9 oM)|(intro h9;omega)):p:=h
theorem Ls {p:Prop}(h:p:=by first|exact hbd.up oM|exact hbd.put _ hvr):p:=h
theorem Di {p:Prop}(h:p:=by have:=hG0.lt _ hm;omega):p:=h
theorem Eb (w:World)(S:List Nat)(g:Nat)(vp:Value)(dp:Nat)(ip:Int)(s0:Nat)(c0:Int)(p:List Fn)(T:Tp)(op:Int)(vk:Value)(ks:Sr)(hS:∀b∈S,b<w.heap.size)(hgS:g∈S)(hR0:P6 52 107 2 S g w.heap vp ip T s0 c0)(hp:RP S dp w.heap vp p)(_hip:Bn ip)(hs0:s0≤3000)(hc0:0≤c0∧c0≤9)(hbd:Ia T s0)(_hop:Bn op)(hks:RN S (B4 rI) w.heap vk ks)(hqks:CD vk)(hop:3≤op∧op≤7)(hkl:1≤ks.length∧(op≠7→2≤ks.length))(hen:Ir T ks)(hc00:c0=0) :
  Calls Tryz.prog 172 #[zP g,zI op,vk] w (fun e w'=>∃(r:Int) (S':List Nat) (T':Tp) (c1:Int),e=.returned (zI r)∧E9 S S' w w'∧P6 52 107 2 S' g w'.heap vp ip T' s0 c1∧Ia T' (s0+1)∧((0≤c1∧c1≤9)∧T.vals.length≤T'.vals.length∧T'.vals.length≤T.vals.length+1∧T'.grd.length=T.grd.length)∧(c1=0→0≤r∧r<(T'.vals.length:Int))∧(Bn r)∧AN (go c0 (Q4 op ks s0 T)) (r,T') s0 c1):=by
 refine Ap [zP g,zI op,vk] 51 Tryz.func172 Z Z sM ?_
 have bi:At S w w:=At.refl S w
 have cd:=hp.lenle
 unfold maxLen at cd
 have cg:=hks.lenL
 unfold maxLen at cg
 obtain⟨rc0,rg0,rv0,b0,bv⟩:=hR0
 have cx:=b0.lt
 have hG0:E9 S S w w:=E9.refl hS
 have ch:=hen 0 oM
 have hbn:=hbd.ln hs0
 refine Z2 Z<|Z1 [0,0,0,2,0,3,4] Z<|Ad 2 Z<|Az (v:=vk) 0 Bm BC Z Z hks.slL Z sD Aa ?_
 have am:=RN.getI (w:=w) (k:=0) hks sD
 refine Ah (p:=Ay vk 0 1) (.inr Z) (zI<|ks.getD 0 0) AB Z (am.1 _ bi) Aa ?_
 have b1:∀(wq:World),(Instr.build 52 #[(0,zI op),(1,zI (ks.getD 0 0))]).run Tryz.prog wq=.ok (.agg #[zI op,zI (ks.getD 0 0),zI 0,zI 0]) wq:=by intro wq;kernel_rfl
 refine C1 (ps:=#[(0,zI op),(1,zI<|ks.getD 0 0)]) (.agg #[zI op,zI<|ks.getD 0 0,zI 0,zI 0]) (by simp only[zc,zf,zh];rfl) (fun wq=>b1  wq) Aa ?_
 have ci:=b0.lt
 refine Bj (z:=.agg #[zI 0,zI 0,zI 0,zI 0]) QV Aa fun w3 an cj b2=>?_
 have bw:w.heap.size≤w3.heap.size:=an.size
 have bx:At S w w3:=bi.ext an
 have ao:=b0.ext an
 have bz:=C3.ext bv an
 have c2:=hG0.ext an
 replace b2:BX w3.heap w.heap.size [zI 0,zI 0,zI 0,zI 0]:=b2
 refine Bw (vs:=[zI op,zI<|ks.getD 0 0,zI (0:Int),zI (0:Int)]) DM Z Z (by intro u hu;simp only[ze,z2,or_false]at hu;rcases hu with rfl|rfl|rfl|rfl <;> first|exact⟨rfl,rfl⟩) b2 Z Z Aa fun w6 ap ck ag=>?_
 replace ag:BX w6.heap w.heap.size [zI op,zI (ks.getD 0 0),zI (0:Int),zI (0:Int)]:=ag
 have b3:At S w w6:=bx.fresh ap (fun _ h=>zE h)
 have af:=C3.chgO bz ap fun b hb hm=>by rw[A9 hb]at hm;exact Di
 have bj:=c2.fresh ap fun _ h=>zE h
 have c3:w3.heap.size≤w6.heap.size:=ap.size
 have az:=ao.chg ap (zB ·)
 refine Aj<|A0<|Z1 [0,0] Z<|Ad 1 Z ?_
 by_cases aq:op≠((7:Nat):Int)
 ·refine B5 true Z Z (A5 aq) Aa<|Aj<|Af Z<|Ab _ [0,0,2,0,4] Z ?_
  have cl:=hen 1 oM
  refine Ad 1 Z<|Az (v:=vk) 1 Bm BC Z Z hks.slL Z sD Aa ?_
  have ah:=RN.getI (w:=w) (k:=1) hks sD
  refine Ah (p:=Ay vk 1 1) (.inr Z) (zI<|ks.getD 1 0) AB Z (ah.1 _ b3) Aa<|Ak (p:=zP w.heap.size) 2 C5 Z Z Aa (Bi (k:=2) (w:=w6) GD Z Z ⟨rfl,rfl⟩ ag sM Aa fun cm a9 c4 a8=>?_)
  replace a8:BX cm.heap w.heap.size [zI op,zI (ks.getD 0 0),zI (ks.getD 1 0),zI (0:Int)]:=a8
  have b4:At S w cm:=b3.fresh a9 (fun _ h=>zE h)
  have a3:=C3.chgO af a9 fun b hb hm=>by rw[A9 hb]at hm;exact Di
  have b5:=bj.fresh a9 fun _ h=>zE h
  have bk:w6.heap.size≤cm.heap.size:=a9.size
  have ai:=az.chg a9 (zB ·)
  refine Aj<|A0<|AW _ [1,0,0,0,1,0,1,0,1,0,0,0,1,0,1,0,1,3,0,0,0,0,0] mixed (by kernel_rfl)<|AO (p:=zP w.heap.size) (.inl Z) [zI op,zI<|ks.getD 0 0,zI<|ks.getD 1 0,zI (0:Int)] DM Z (fun cn aj=>LD.of_box<|BX.ext (w:=cm.drew) a8 aj) Z Aa<|Ad 1 Z<|AZ Z Aa<|Ak (p:=zP g) 5 CW Z Z Aa<|Ah (p:=Ao (zP g) 5) (.inl Z) rv0 BA Z (ai.ldp (i:=5) sM) Aa<|Ak (p:=zP w.heap.size) 1 C4 Z Z Aa ?_
  refine Ah (p:=Ao (zP w.heap.size) 1) (.inl Z) (zI<|ks.getD 0 0) AB Z (a8.ldp (i:=1) sM) Aa<|Az (v:=rv0) ((ks.getD 0 0).toNat) Bm BC Z Z (C3.slv a3) oM oM Aa (Ah (p:=Ay rv0 ((ks.getD 0 0).toNat) 1) (.inl Z) (zI<|T.vals.getD ((ks.getD 0 0).toNat) 0) AB Z ((C3.rdv a3).getI oM).1 Aa (Ad 1 Z<|AZ Z Aa<|Ak (p:=zP g) 5 CW Z Z Aa<|Ah (p:=Ao (zP g) 5) (.inl Z) rv0 BA Z (ai.ldp (i:=5) sM) Aa<|Ak (p:=zP w.heap.size) 2 C5 Z Z Aa ?_))
  refine Ah (p:=Ao (zP w.heap.size) 2) (.inl Z) (zI<|ks.getD 1 0) AB Z (a8.ldp (i:=2) sM) Aa<|Az (v:=rv0) ((ks.getD 1 0).toNat) Bm BC Z Z (C3.slv a3) oM oM Aa (Ah (p:=Ay rv0 ((ks.getD 1 0).toNat) 1) (.inl Z) (zI<|T.vals.getD ((ks.getD 1 0).toNat) 0) AB Z ((C3.rdv a3).getI oM).1 Aa (Au 118 [] [] [.agg #[zI op,zI<|ks.getD 0 0,zI<|ks.getD 1 0,zI (0:Int)],zI<|T.vals.getD ((ks.getD 0 0).toNat) 0,zI<|T.vals.getD ((ks.getD 1 0).toNat) 0] Z Z Tu Aa (Fw _ (op) (ks.getD 0 0) (ks.getD 1 0) (0:Int) _ _ _hop am.2 ah.2 oM ((C3.rdv a3).getI oM).2 ((C3.rdv a3).getI oM).2 oM) ?_))
  rintro cy c7 ⟨rfl,a0⟩
  refine⟨_,rfl,a0,?_⟩
  replace a0:=a0.of_drew
  have bl:cm.heap.size≤c7.heap.size:=a0.size
  have ar:At S w c7:=b4.ext a0
  have a7:=ai.ext a0
  have a2:=a8.ext a0
  have c5:=(C3.rdv a3).ext g1 a0
  have au:=C3.ext a3 a0
  have aa:=b5.ext a0
  refine Ad 1 Z<|AR (vs:=[zI (if Dk op (T.vals.getD ((ks.getD 1 0).toNat) 0)then 0 else Fy op (T.vals.getD ((ks.getD 0 0).toNat) 0) (T.vals.getD ((ks.getD 1 0).toNat) 0)),.bool (!decide (Dk op<|T.vals.getD ((ks.getD 1 0).toNat) 0))]) (zI (if Dk op (T.vals.getD ((ks.getD 1 0).toNat) 0)then 0 else Fy op (T.vals.getD ((ks.getD 0 0).toNat) 0) (T.vals.getD ((ks.getD 1 0).toNat) 0))) Z Z Aa<|AR (vs:=[zI (if Dk op (T.vals.getD ((ks.getD 1 0).toNat) 0)then 0 else Fy op (T.vals.getD ((ks.getD 0 0).toNat) 0) (T.vals.getD ((ks.getD 1 0).toNat) 0)),.bool (!decide (Dk op<|T.vals.getD ((ks.getD 1 0).toNat) 0))]) (.bool (!decide (Dk op<|T.vals.getD ((ks.getD 1 0).toNat) 0))) Z Z Aa<|Ac 2 Z<|A0<|Z1 [0,0] Z ?_
  have hvr:0≤(if Dk op (T.vals.getD ((ks.getD 1 0).toNat) 0)then 0 else Fy op (T.vals.getD ((ks.getD 0 0).toNat) 0) (T.vals.getD ((ks.getD 1 0).toNat) 0))∧(if Dk op (T.vals.getD ((ks.getD 1 0).toNat) 0)then 0 else Fy op (T.vals.getD ((ks.getD 0 0).toNat) 0) (T.vals.getD ((ks.getD 1 0).toNat) 0))<1000003:=O2 _ _ _
  refine Ad 1 Z<|Bq (!(!decide (Dk op<|T.vals.getD ((ks.getD 1 0).toNat) 0))) Z Z Aa<|Aj ?_
  cases av:(!(!decide (Dk op (T.vals.getD ((ks.getD 1 0).toNat) 0))))
  ·refine Ai (by first|rfl|exact zW av)<|A2<|Z1 [0,2,0,4,0] Z<|Ad 1 Z<|AO (p:=zP w.heap.size) (.inr Z) [zI op,zI<|ks.getD 0 0,zI<|ks.getD 1 0,zI (0:Int)] DM Z (fun cn aj=>LD.of_box<|BX.ext (w:=c7) a2 aj) Z Aa<|Ad 1 Z ?_
   refine AA 54 [] [] [zP g,.agg #[zI op,zI<|ks.getD 0 0,zI<|ks.getD 1 0,zI (0:Int)],zI (if Dk op (T.vals.getD ((ks.getD 1 0).toNat) 0)then 0 else Fy op (T.vals.getD ((ks.getD 0 0).toNat) 0) (T.vals.getD ((ks.getD 1 0).toNat) 0))] Z Z SJ Aa (Ci _ S g vp ip (s0) (c0) (T) (⟨op,ks.getD 0 0,ks.getD 1 0,(0:Int)⟩:Aw) (if Dk op (T.vals.getD ((ks.getD 1 0).toNat) 0)then 0 else Fy op (T.vals.getD ((ks.getD 0 0).toNat) 0) (T.vals.getD ((ks.getD 1 0).toNat) 0)) (fun b hb=>(aa.lt b hb:b<c7.heap.size)) (aa.sub _ hgS) ⟨_,_,_,a7,au⟩ _hip (by exact hbd.ln hs0) ⟨_hop,am.2,ah.2,(show Bn (0:Int)from by omega)⟩ (by have:=L2 op (T.vals.getD ((ks.getD 0 0).toNat) 0) (T.vals.getD ((ks.getD 1 0).toNat) 0);split <;> omega)) ?_
   rintro cz cq ⟨cs,rfl,a4,ct,vg20,vv20,b6,b7⟩
   refine⟨_,rfl,?_⟩
   have bm:c7.heap.size≤cq.heap.size:=a4.chg.size
   have c6:At S w cq:=ar.stp a4.chg aa.new
   have b8:w.heap.size∉cs:=fun hm=>(a4.new _ hm).elim (fun hm=>Di) (fun h9=>by omega)
   have b9:=aa.trans a4
   have bn:(T.put (⟨op,ks.getD 0 0,ks.getD 1 0,(0:Int)⟩:Aw) (if Dk op (T.vals.getD ((ks.getD 1 0).toNat) 0)then 0 else Fy op (T.vals.getD ((ks.getD 0 0).toNat) 0) (T.vals.getD ((ks.getD 1 0).toNat) 0))).vals.length=T.vals.length+1:=EX _ _ _
   have bo:(T.put (⟨op,ks.getD 0 0,ks.getD 1 0,(0:Int)⟩:Aw) (if Dk op (T.vals.getD ((ks.getD 1 0).toNat) 0)then 0 else Fy op (T.vals.getD ((ks.getD 0 0).toNat) 0) (T.vals.getD ((ks.getD 1 0).toNat) 0))).grd.length=T.grd.length:=rfl
   exact Ac 1 Z<|A1<|Ag [6] Z (zI (T.vals.length:Int)) Z ⟨(T.vals.length:Int),_,T.put (⟨op,ks.getD 0 0,ks.getD 1 0,(0:Int)⟩:Aw) (if Dk op (T.vals.getD ((ks.getD 1 0).toNat) 0)then 0 else Fy op (T.vals.getD ((ks.getD 0 0).toNat) 0) (T.vals.getD ((ks.getD 1 0).toNat) 0)),c0,rfl,b9,⟨_,_,_,b6,b7⟩,Ls,oM,Lr,oM,Lq⟩
  refine Af (by first|rfl|exact zW av)<|Z1 [0,0,0,4] Z<|Ad 1 Z<|AZ Z Aa<|Ak (p:=zP g) 7 DS Z Z Aa (Bi (k:=7) (w:=c7) GD Z Z ⟨rfl,rfl⟩ a7 sM Aa fun co ab c8 ak=>?_)
  replace ak:BX co.heap g [vp,zI ip,rc0,rg0,zN,rv0,zI (s0:Int),zI ((6:Nat):Int)]:=ak
  have c9:At S w co:=ar.trans (ab.sub (B6 hgS))
  have ba:=C3.chg au ab
  have bb:=aa.set hgS ab
  have bp:c7.heap.size≤co.heap.size:=ab.size
  exact Aj<|Z2 Z<|A1<|Am<|Ag [6] Z (zI ((0:Nat):Int)) Z ⟨((0:Nat):Int),_,T,((6:Nat):Int),rfl,bb,⟨_,_,_,ak,ba⟩,Ls,oM,Lr,oM,Lq⟩
 refine B5 false Z Z (A6 aq) Aa<|Aj<|Ai Z<|A2<|A0<|AW _ [1,0,0,0,1,0,1,0,1,0,0,0,1,0,1,0,1,3,0,0,0,0,0] mixed (by kernel_rfl)<|AO (p:=zP w.heap.size) (.inl Z) [zI op,zI<|ks.getD 0 0,zI (0:Int),zI (0:Int)] DM Z (fun cn aj=>LD.of_box<|BX.ext (w:=w6.drew) ag aj) Z Aa<|Ad 1 Z<|AZ Z Aa<|Ak (p:=zP g) 5 CW Z Z Aa<|Ah (p:=Ao (zP g) 5) (.inl Z) rv0 BA Z (az.ldp (i:=5) sM) Aa<|Ak (p:=zP w.heap.size) 1 C4 Z Z Aa ?_
 refine Ah (p:=Ao (zP w.heap.size) 1) (.inl Z) (zI<|ks.getD 0 0) AB Z (ag.ldp (i:=1) sM) Aa<|Az (v:=rv0) ((ks.getD 0 0).toNat) Bm BC Z Z (C3.slv af) oM oM Aa (Ah (p:=Ay rv0 ((ks.getD 0 0).toNat) 1) (.inl Z) (zI<|T.vals.getD ((ks.getD 0 0).toNat) 0) AB Z ((C3.rdv af).getI oM).1 Aa (Ad 1 Z<|AZ Z Aa<|Ak (p:=zP g) 5 CW Z Z Aa<|Ah (p:=Ao (zP g) 5) (.inl Z) rv0 BA Z (az.ldp (i:=5) sM) Aa<|Ak (p:=zP w.heap.size) 2 C5 Z Z Aa ?_))
 refine Ah (p:=Ao (zP w.heap.size) 2) (.inl Z) (zI (0:Int)) AB Z (ag.ldp (i:=2) sM) Aa<|Az (v:=rv0) ((0:Int).toNat) Bm BC Z Z (C3.slv af) oM oM Aa (Ah (p:=Ay rv0 ((0:Int).toNat) 1) (.inl Z) (zI<|T.vals.getD ((0:Int).toNat) 0) AB Z ((C3.rdv af).getI oM).1 Aa (Au 118 [] [] [.agg #[zI op,zI<|ks.getD 0 0,zI (0:Int),zI (0:Int)],zI<|T.vals.getD ((ks.getD 0 0).toNat) 0,zI<|T.vals.getD ((0:Int).toNat) 0] Z Z Tu Aa (Fw _ (op) (ks.getD 0 0) (0:Int) (0:Int) _ _ _hop am.2 oM oM ((C3.rdv af).getI oM).2 ((C3.rdv af).getI oM).2 oM) ?_))
 rintro d0 ca ⟨rfl,a1⟩
 refine⟨_,rfl,a1,?_⟩
 replace a1:=a1.of_drew
 have bq:w6.heap.size≤ca.heap.size:=a1.size
 have aw:At S w ca:=b3.ext a1
 have ac:=az.ext a1
 have a6:=ag.ext a1
 have cb:=(C3.rdv af).ext g1 a1
 have ax:=C3.ext af a1
 have ad:=bj.ext a1
 refine Ad 1 Z<|AR (vs:=[zI (if Dk op (T.vals.getD ((0:Int).toNat) 0)then 0 else Fy op (T.vals.getD ((ks.getD 0 0).toNat) 0) (T.vals.getD ((0:Int).toNat) 0)),.bool (!decide (Dk op<|T.vals.getD ((0:Int).toNat) 0))]) (zI (if Dk op (T.vals.getD ((0:Int).toNat) 0)then 0 else Fy op (T.vals.getD ((ks.getD 0 0).toNat) 0) (T.vals.getD ((0:Int).toNat) 0))) Z Z Aa<|AR (vs:=[zI (if Dk op (T.vals.getD ((0:Int).toNat) 0)then 0 else Fy op (T.vals.getD ((ks.getD 0 0).toNat) 0) (T.vals.getD ((0:Int).toNat) 0)),.bool (!decide (Dk op<|T.vals.getD ((0:Int).toNat) 0))]) (.bool (!decide (Dk op<|T.vals.getD ((0:Int).toNat) 0))) Z Z Aa<|Ac 2 Z<|A0<|Z1 [0,0] Z ?_
 have hvr:0≤(if Dk op (T.vals.getD ((0:Int).toNat) 0)then 0 else Fy op (T.vals.getD ((ks.getD 0 0).toNat) 0) (T.vals.getD ((0:Int).toNat) 0))∧(if Dk op (T.vals.getD ((0:Int).toNat) 0)then 0 else Fy op (T.vals.getD ((ks.getD 0 0).toNat) 0) (T.vals.getD ((0:Int).toNat) 0))<1000003:=O2 _ _ _
 refine Ad 1 Z<|Bq (!(!decide (Dk op<|T.vals.getD ((0:Int).toNat) 0))) Z Z Aa<|Aj ?_
 cases ay:(!(!decide (Dk op (T.vals.getD ((0:Int).toNat) 0))))
 ·refine Ai (by first|rfl|exact zW ay)<|A2<|Z1 [0,2,0,4,0] Z<|Ad 1 Z<|AO (p:=zP w.heap.size) (.inr Z) [zI op,zI<|ks.getD 0 0,zI (0:Int),zI (0:Int)] DM Z (fun cn aj=>LD.of_box<|BX.ext (w:=ca) a6 aj) Z Aa<|Ad 1 Z ?_
  refine AA 54 [] [] [zP g,.agg #[zI op,zI<|ks.getD 0 0,zI (0:Int),zI (0:Int)],zI (if Dk op (T.vals.getD ((0:Int).toNat) 0)then 0 else Fy op (T.vals.getD ((ks.getD 0 0).toNat) 0) (T.vals.getD ((0:Int).toNat) 0))] Z Z SJ Aa (Ci _ S g vp ip (s0) (c0) (T) (⟨op,ks.getD 0 0,(0:Int),(0:Int)⟩:Aw) (if Dk op (T.vals.getD ((0:Int).toNat) 0)then 0 else Fy op (T.vals.getD ((ks.getD 0 0).toNat) 0) (T.vals.getD ((0:Int).toNat) 0)) (fun b hb=>(ad.lt b hb:b<ca.heap.size)) (ad.sub _ hgS) ⟨_,_,_,ac,ax⟩ _hip (by exact hbd.ln hs0) ⟨_hop,am.2,(show Bn (0:Int)from by omega),(show Bn (0:Int)from by omega)⟩ (by have:=L2 op (T.vals.getD ((ks.getD 0 0).toNat) 0) (T.vals.getD ((0:Int).toNat) 0);split <;> omega)) ?_
  rintro d1 cr ⟨cu,rfl,a5,cw,vg36,vv36,bc,bd⟩
  refine⟨_,rfl,?_⟩
  have br:ca.heap.size≤cr.heap.size:=a5.chg.size
  have cc:At S w cr:=aw.stp a5.chg ad.new
  have be:w.heap.size∉cu:=fun hm=>(a5.new _ hm).elim (fun hm=>Di) (fun h9=>by omega)
  have bf:=ad.trans a5
  have bs:(T.put (⟨op,ks.getD 0 0,(0:Int),(0:Int)⟩:Aw) (if Dk op (T.vals.getD ((0:Int).toNat) 0)then 0 else Fy op (T.vals.getD ((ks.getD 0 0).toNat) 0) (T.vals.getD ((0:Int).toNat) 0))).vals.length=T.vals.length+1:=EX _ _ _
  have bt:(T.put (⟨op,ks.getD 0 0,(0:Int),(0:Int)⟩:Aw) (if Dk op (T.vals.getD ((0:Int).toNat) 0)then 0 else Fy op (T.vals.getD ((ks.getD 0 0).toNat) 0) (T.vals.getD ((0:Int).toNat) 0))).grd.length=T.grd.length:=rfl
  exact Ac 1 Z<|A1<|Ag [6] Z (zI (T.vals.length:Int)) Z ⟨(T.vals.length:Int),_,T.put (⟨op,ks.getD 0 0,(0:Int),(0:Int)⟩:Aw) (if Dk op (T.vals.getD ((0:Int).toNat) 0)then 0 else Fy op (T.vals.getD ((ks.getD 0 0).toNat) 0) (T.vals.getD ((0:Int).toNat) 0)),c0,rfl,bf,⟨_,_,_,bc,bd⟩,Ls,oM,Lr,oM,Lq⟩
 refine Af (by first|rfl|exact zW ay)<|Z1 [0,0,0,4] Z<|Ad 1 Z<|AZ Z Aa<|Ak (p:=zP g) 7 DS Z Z Aa (Bi (k:=7) (w:=ca) GD Z Z ⟨rfl,rfl⟩ ac sM Aa fun cp ae ce al=>?_)
 replace al:BX cp.heap g [vp,zI ip,rc0,rg0,zN,rv0,zI (s0:Int),zI ((6:Nat):Int)]:=al
 have cf:At S w cp:=aw.trans (ae.sub (B6 hgS))
 have bg:=C3.chg ax ae
 have bh:=ad.set hgS ae
 have bu:ca.heap.size≤cp.heap.size:=ae.size
 exact Aj<|Z2 Z<|A1<|Am<|Ag [6] Z (zI ((0:Nat):Int)) Z ⟨((0:Nat):Int),_,T,((6:Nat):Int),rfl,bh,⟨_,_,_,al,bg⟩,Ls,oM,Lr,oM,Lq⟩
theorem Np (F d:Nat)(IH:∀d',d'<d→XW F d'):Za F d:=by
 intro w S g vp dp ip s0 c0 p T vl l vv env hS hgS hR0 hp hip hs0 hc0 hbd hl henv hqenv hvp hF hwf hdp hll hen
 exact Gt w S F g vp dp ip s0 c0 p T d vl l vv env hS hgS hR0 hp hip hs0 hc0 hbd hl henv hqenv hvp hF hwf hdp hll hen IH
theorem Dv {p:Prop}(h:p:=by first|exact Sb oM|exact OP oM oM|exact Uy hc00 hs1 oM|exact Uz hc00 hs1 oM|exact UA hc00 hs1 oM oM hL1 oM|exact UB hc00 hs1 oM oM hL1 oM (by assumption) hL2|exact UC hc00 hs1 oM oM hL1 oM (by assumption) hL2|exact UD hc00 hs1 oM oM hL1 hL2|exact Q6 hc00 hs1 hkg.1 hkg.2.1 hkg.2.2.1 hkg.2.2.2 hKr oM|exact Sc hc00 hs1 oM oM hKr oM hL2|exact Sd hc00 hs1 oM oM hKr oM (Sf hrl9 oM oM)|exact Vv hc00 hs1 hkg.1 hkg.2.1 hkg.2.2.1 hkg.2.2.2 oM oM hKr oM hL2):p:=h
theorem Dw {p:Prop}(h:p:=by first|(intro h9;exact absurd h9 oM)|assumption|(intro h9;omega)|(intro h9;have:=hkb9 h9;omega)):p:=h
theorem Fj {p:Prop}(h:p:=by first|assumption|exact hbd.up oM|exact Ia.guard (by assumption) _ _ oM):p:=h
theorem Dx {p:Prop}(h:p:=by first|assumption|exact hbd.put _ oM|exact Ia.dn (by assumption) oM oM):p:=h
theorem Gu (w:World)(S:List Nat)(F:Nat)(g:Nat)(vp:Value)(dp:Nat)(ip:Int)(s0:Nat)(c0:Int)(p:List Fn)(T:Tp)(dex:Nat)(ve:Value)(ex:Ex)(vv:Value)(env:Sr)(hS:∀b∈S,b<w.heap.size)(hgS:g∈S)(hR0:P6 52 107 2 S g w.heap vp ip T s0 c0)(hp:RP S dp w.heap vp p)(_hip:Bn ip)(hs0:s0≤3000)(hc0:0≤c0∧c0≤9)(hbd:Ia T s0)(hex:RX S dex w.heap ve ex)(henv:RN S (B4 rI) w.heap vv env)(hqenv:CD vv)(hvp:Lv p)(hF:F≤p.length)(hwf:wf p (F:Int) ex (env.length:Int)=true)(hdp:env.length+ex.deep≤1000000)(hen:c0=0→Ir T env)(IH1:∀F',F'<F→∀d,XW F' d)(IH2:∀d',d'<dex→XW F d') :
  Calls Tryz.prog 117 #[zP g,(.agg #[(zI ex.kind),(zI ex.num),(zI ex.pick),(zI ex.count),ve]),vv] w (fun e w'=>∃(r:Int) (S':List Nat) (T':Tp) (s1:Nat) (c1:Int),e=.returned (zI r)∧E9 S S' w w'∧P6 52 107 2 S' g w'.heap vp ip T' s1 c1∧Te T T' s0 s1 c1∧(c1=0→0≤r∧r<(T'.vals.length:Int))∧(Bn r)∧AN (go c0 (Fp (Iz p F) ex env s0 T)) (r,T') s1 c1):=by
 refine Ap [zP g,.agg #[zI ex.kind,zI ex.num,zI ex.pick,zI ex.count,ve],vv] 190 Tryz.func117 Z Z sM ?_
 have j4:At S w w:=At.refl S w
 have fi:=hp.lenle
 unfold maxLen at fi
 have fj:=hex.rn.lenle
 unfold maxLen at fj
 have fk:=henv.lenL
 unfold maxLen at fk
 obtain⟨rc0,rg0,rv0,g9,j5⟩:=hR0
 have ms:=g9.lt
 have hG0:E9 S S w w:=E9.refl hS
 have hdk:=Dr ex
 refine Z1 [3,0] Z ?_
 have ky:=g9.lt
 refine Bx (cs:=#[zI ex.kind,zI ex.num,zI ex.pick,zI ex.count,ve]) Z Aa fun w1 d3 ka g0=>?_
 have ga:w.heap.size≤w1.heap.size:=d3.size
 have gb:At S w w1:=j4.ext d3
 have ai:=g9.ext d3
 have g2:=C3.ext j5 d3
 have g3:=hG0.ext d3
 replace g0:BX w1.heap w.heap.size [zI ex.kind,zI ex.num,zI ex.pick,zI ex.count,ve]:=g0
 refine Ac 1 Z<|A0<|Z1 [0,0,0,2,0] Z<|Ad 1 Z<|AZ Z Aa<|Ak (p:=zP g) 7 DS Z Z Aa<|Ah (p:=Ao (zP g) 7) (.inr Z) (zI c0) AB Z (ai.ldp (i:=7) sM) Aa ?_
 by_cases j6:c0≠((0:Nat):Int)
 ·refine B5 true Z Z (A5 j6) Aa<|Aj<|Af Z<|Z2 Z<|A1<|Am ?_
  exact Ag [6] Z (zI ((0:Nat):Int)) Z ⟨((0:Nat):Int),_,T,s0,c0,rfl,g3,⟨_,_,_,ai,g2⟩,⟨Dx,oM⟩,Dw,oM,Dv⟩
 refine B5 false Z Z (A6 j6) Aa<|Aj<|Ai Z<|A2<|A0<|Z1 [0,0,0,2,0] Z<|Ad 1 Z<|AZ Z Aa<|Ak (p:=zP g) 6 Lf Z Z Aa<|Ah (p:=Ao (zP g) 6) (.inr Z) (zI (s0:Int)) AB Z (ai.ldp (i:=6) sM) Aa ?_
 by_cases j7:(s0:Int)=((3000:Nat):Int)
 ·refine Al true Z Z (A5 j7) Aa<|Aj<|Af Z<|Z1 [0,0,0,4] Z<|Ad 1 Z<|AZ Z Aa<|Ak (p:=zP g) 7 DS Z Z Aa (Bi (k:=7) (w:=w1) GD Z Z ⟨rfl,rfl⟩ ai sM Aa fun w6 d4 kz gc=>?_)
  replace gc:BX w6.heap g [vp,zI ip,rc0,rg0,zN,rv0,zI (s0:Int),zI ((7:Nat):Int)]:=gc
  have l0:At S w w6:=gb.trans (d4.sub (B6 hgS))
  have kb:=C3.chg g2 d4
  have kc:=g3.set hgS d4
  have kd:w1.heap.size≤w6.heap.size:=d4.size
  have ke:=g0.chg d4 (zB ·)
  refine Aj<|Z2 Z<|A1<|Am ?_
  exact Ag [6] Z (zI ((0:Nat):Int)) Z ⟨((0:Nat):Int),_,T,s0,((7:Nat):Int),rfl,kc,⟨_,_,_,gc,kb⟩,⟨Dx,oM⟩,Dw,oM,Dv⟩
 refine Al false Z Z (A6 j7) Aa<|Aj<|Ai Z<|A2<|Z1 [0,0,0,2,0,0,0,4] Z<|Ad 1 Z<|AZ Z Aa<|Ak (p:=zP g) 6 Lf Z Z Aa<|Ah (p:=Ao (zP g) 6) (.inr Z) (zI (s0:Int)) AB Z (ai.ldp (i:=6) sM) Aa<|AM ((s0+1:Nat):Int) Z Z (Ba oM oM) Aa<|AZ Z Aa<|Ak (p:=zP g) 6 Lf Z Z Aa (Bi (k:=6) (w:=w1) GD Z Z ⟨rfl,rfl⟩ ai sM Aa fun f3 b0 gd aw=>?_)
 replace aw:BX f3.heap g [vp,zI ip,rc0,rg0,zN,rv0,zI ((s0+1:Nat):Int),zI c0]:=aw
 have a4:At S w f3:=gb.trans (b0.sub (B6 hgS))
 have b1:=C3.chg g2 b0
 have a0:=g3.set hgS b0
 have d5:w1.heap.size≤f3.heap.size:=b0.size
 have ac:=g0.chg b0 (zB ·)
 refine Aj<|A0<|Z1 [0,2] Z ?_
 have hc00:c0=0:=by omega
 have hs1:s0+1≤3000:=by omega
 have ax:=hen hc00
 have kf:=hbd.up (s':=s0+1) oM
 have hbn:=hbd.2
 refine Ak (p:=zP w.heap.size) 0 Bg Z Z Aa<|Ah (p:=Ao (zP w.heap.size) 0) (.inr Z) (zI ex.kind) AB Z (ac.ldp (i:=0) sM) Aa<|Aj<|A3<|Z1 [0,0] Z ?_
 by_cases d6:ex.kind=((1:Nat):Int)
 ·refine Al true Z Z (A5 d6) Aa<|Ac 1 Z<|Af Z<|Z1 [0,0,2,0,0,2,4,0] Z ?_
  have hwk:=PO hwf oM
  refine Ad 1 Z<|Ak (p:=zP w.heap.size) 1 BJ Z Z Aa<|Ah (p:=Ao (zP w.heap.size) 1) (.inr Z) (zI ex.num) AB Z (ac.ldp (i:=1) sM) Aa ?_
  have d7:∀(wq:World),(Instr.build 52 #[(0,zI ((2:Nat):Int)),(3,zI ex.num)]).run Tryz.prog wq=.ok (.agg #[zI ((2:Nat):Int),zI 0,zI 0,zI ex.num]) wq:=by intro wq;kernel_rfl
  refine C1 (ps:=#[(0,zI ((2:Nat):Int)),(3,zI ex.num)]) (.agg #[zI ((2:Nat):Int),zI 0,zI 0,zI ex.num]) (by simp only[zc,zf,zh];rfl) (fun wq=>d7  wq) Aa<|Ak (p:=zP w.heap.size) 1 BJ Z Z Aa<|Ah (p:=Ao (zP w.heap.size) 1) (.inr Z) (zI ex.num) AB Z (ac.ldp (i:=1) sM) Aa ?_
  refine AA 54 [] [] [zP g,.agg #[zI ((2:Nat):Int),zI (0:Int),zI (0:Int),zI ex.num],zI ex.num] Z Z SJ Aa (Ci _ S g vp ip (s0+1) (c0) (T) (⟨((2:Nat):Int),(0:Int),(0:Int),ex.num⟩:Aw) (ex.num) (fun b hb=>(a0.lt b hb:b<f3.heap.size)) (a0.sub _ hgS) ⟨_,_,_,aw,b1⟩ _hip (by exact Ia.ln (by assumption) oM) ⟨(show Bn ((2:Nat):Int)from by omega),(show Bn (0:Int)from by omega),(show Bn (0:Int)from by omega),hex.rng.num⟩ hex.rng.num) ?_
  rintro mt lj ⟨ly,rfl,an,lz,vg18,vv18,ge,gf⟩
  refine⟨_,rfl,?_⟩
  have j8:f3.heap.size≤lj.heap.size:=an.chg.size
  have kg:At S w lj:=a4.stp an.chg a0.new
  have kh:=ac.chg an.chg fun hm=>Di
  have gg:w.heap.size∉ly:=fun hm=>(an.new _ hm).elim (fun hm=>Di) (fun h9=>by omega)
  have gh:=a0.trans an
  have j9:(T.put (⟨((2:Nat):Int),(0:Int),(0:Int),ex.num⟩:Aw) (ex.num)).vals.length=T.vals.length+1:=EX _ _ _
  have ja:(T.put (⟨((2:Nat):Int),(0:Int),(0:Int),ex.num⟩:Aw) (ex.num)).grd.length=T.grd.length:=rfl
  refine Ac 1 Z<|A1<|AF<|Am ?_
  exact Ag [6] Z (zI (T.vals.length:Int)) Z ⟨(T.vals.length:Int),_,T.put (⟨((2:Nat):Int),(0:Int),(0:Int),ex.num⟩:Aw)<|ex.num,s0+1,c0,rfl,gh,⟨_,_,_,ge,gf⟩,⟨Dx,oM⟩,Dw,oM,Dv⟩
 refine Al false Z Z (A6 d6) Aa<|Ac 1 Z<|Ai Z<|Z1 [0,0] Z ?_
 by_cases d8:ex.kind=((2:Nat):Int)
 ·refine Al true Z Z (A5 d8) Aa<|Ac 1 Z<|Af Z<|Z1 [0,0,2,0,2,0] Z ?_
  have hwk:=PP hwf oM
  have hRv:=ax ex.num.toNat oM
  refine Ad 1 Z<|Ak (p:=zP w.heap.size) 1 BJ Z Z Aa<|Ah (p:=Ao (zP w.heap.size) 1) (.inr Z) (zI ex.num) AB Z (ac.ldp (i:=1) sM) Aa<|Az (v:=vv) ((ex.num).toNat) Bm BC Z Z henv.slL oM oM Aa ?_
  have da:=RN.getI (w:=w) (k:=(ex.num).toNat) henv oM
  refine Ah (p:=Ay vv ((ex.num).toNat) 1) (.inr Z) (zI<|env.getD ((ex.num).toNat) 0) AB Z (da.1 _ a4) Aa<|Ac 1 Z<|A1<|AF<|Am ?_
  exact Ag [6] Z (zI<|env.getD ((ex.num).toNat) 0) Z ⟨env.getD ((ex.num).toNat) 0,_,T,s0+1,c0,rfl,a0,⟨_,_,_,aw,b1⟩,⟨Dx,oM⟩,Dw,da.2,Dv⟩
 refine Al false Z Z (A6 d8) Aa<|Ac 1 Z<|Ai Z<|Z1 [0,0] Z ?_
 by_cases db:ex.kind=((8:Nat):Int)
 ·refine Al true Z Z (A5 db) Aa<|Ac 1 Z<|Af Z<|Z1 [0,0,2,0,2,0,4,0] Z ?_
  have hwk:=T6 hwf oM
  refine Ad 1 Z<|Ak (p:=zP w.heap.size) 4 Bc Z Z Aa<|Ah (p:=Ao (zP w.heap.size) 4) (.inr Z) ve Bl Z (ac.ldp (i:=4) sM) Aa<|Az (v:=ve) 0 CR Bp Z Z hex.rn.isSl Z sD Aa ?_
  obtain⟨cs28,gi,gj⟩:=hex.rn.get (AD dex) Ex.zero (k:=0) sD
  obtain⟨dd28,cc,ki,rfl,cd⟩:=RX.of gi
  have dc:=cd.rn.lenle
  unfold maxLen at dc
  refine AO (p:=Ay ve 0 5) (.inr Z) [zI<|(ex.kids.getD 0 Ex.zero).kind,zI<|(ex.kids.getD 0 Ex.zero).num,zI<|(ex.kids.getD 0 Ex.zero).pick,zI<|(ex.kids.getD 0 Ex.zero).count,cc] B7 Z (fun fc ce=>gj fc<|a4.ext ce) Z Aa<|Ad 1 Z ?_
  refine AA 117 [] [] [zP g,.agg #[zI<|(ex.kids.getD 0 Ex.zero).kind,zI<|(ex.kids.getD 0 Ex.zero).num,zI<|(ex.kids.getD 0 Ex.zero).pick,zI<|(ex.kids.getD 0 Ex.zero).count,cc],vv] Z Z Jt Aa (IH2 dd28 oM _ S g vp dp ip (s0+1) (c0) p (T) cc (ex.kids.getD 0 Ex.zero) vv (env) (fun b hb=>(a0.lt b hb:b<f3.heap.size)) (a0.sub _ hgS) ⟨_,_,_,aw,b1⟩ (RN.stp (An<|AH dp) hp a4 a0.new) _hip oM oM Fj ⟨cd.rng,RN.stp (An<|AD dd28) cd.rn a4 a0.new⟩ (RN.stp g1 henv a4 a0.new) hqenv hvp oM (by exact FN hwf oM oM) (zH<|DF (l:=ex.kids) (k:=0) oM) (by exact fun _=>ax)) ?_
  rintro mu fb ⟨f0,l7,f1,l3,fg,rfl,ao,⟨fl,vg29,vv29,b4,b5⟩,dd,de,df,dg⟩
  refine⟨_,rfl,?_⟩
  have jb:f3.heap.size≤fb.heap.size:=ao.chg.size
  have dh:At S w fb:=a4.stp ao.chg a0.new
  have di:=ac.chg ao.chg fun hm=>Di
  have b6:w.heap.size∉l7:=fun hm=>(ao.new _ hm).elim (fun hm=>Di) (fun h9=>by omega)
  have bi:=a0.trans ao
  have jc:=dd.bnd
  have jd:=dd.num
  have gk:=de
  have hL1:=dg
  refine Ac 1 Z<|A0<|Z1 [0,0,0,2,0] Z<|Ad 1 Z<|AZ Z Aa<|Ak (p:=zP g) 7 DS Z Z Aa<|Ah (p:=Ao (zP g) 7) (.inr Z) (zI fg) AB Z (b4.ldp (i:=7) sM) Aa ?_
  by_cases dj:fg≠((0:Nat):Int)
  ·refine B5 true Z Z (A5 dj) Aa<|Aj<|Af Z<|Z2 Z<|A1<|Am<|AF<|Am ?_
   exact Ag [6] Z (zI ((0:Nat):Int)) Z ⟨((0:Nat):Int),_,f1,l3,fg,rfl,bi,⟨_,_,_,b4,b5⟩,⟨Dx,oM⟩,Dw,oM,Dv⟩
  refine B5 false Z Z (A6 dj) Aa<|Aj<|Ai Z<|A2<|Z1 [0,0,0,2,0,0,2,0,0] Z ?_
  have hR1c:=gk oM
  refine Ad 1 Z<|AZ Z Aa<|Ak (p:=zP g) 5 CW Z Z Aa<|Ah (p:=Ao (zP g) 5) (.inr Z) vv29 BA Z (b4.ldp (i:=5) sM) Aa<|Ad 1 Z<|Az (v:=vv29) ((f0).toNat) Bm BC Z Z (C3.slv b5) oM oM Aa (Ah (p:=Ay vv29 ((f0).toNat) 1) (.inr Z) (zI<|f1.vals.getD ((f0).toNat) 0) AB Z ((C3.rdv b5).getI oM).1 Aa (Al (decide (f1.vals.getD ((f0).toNat) 0=((0:Nat):Int))) Z Z Z Aa<|Ac 1 Z<|A0 ?_))
  obtain⟨Fc38,Fg38,Fv38,b7,dk,b8,ap,az,dl,bt,dm⟩:=id b5
  refine Ab _ [0,0,0,0,0,2,0,0,0,3,4,0,0,0,4] Z<|Ad 2 Z<|AZ Z Aa<|Ak (p:=zP g) 1 Ej Z Z Aa<|Ak (p:=Ao (zP g) 1) (b:=g) (o:=1) 2 Le Z Z Aa<|Ah (p:=Ao (Ao (zP g) 1) 2) (.inr Z) vg29 QT Z (b4.ldp (i:=3) sM) Aa<|Ad 2 Z ?_
  have dn:∀(wq:World),(Instr.build 107 #[(0,zI f0),(1,.bool (decide (f1.vals.getD ((f0).toNat) 0=((0:Nat):Int))))]).run Tryz.prog wq=.ok (.agg #[zI f0,.bool (decide (f1.vals.getD ((f0).toNat) 0=((0:Nat):Int)))]) wq:=by intro wq;kernel_rfl
  refine C1 (ps:=#[(0,zI f0),(1,.bool<|decide (f1.vals.getD ((f0).toNat) 0=((0:Nat):Int)))]) (.agg #[zI f0,.bool<|decide (f1.vals.getD ((f0).toNat) 0=((0:Nat):Int))]) (by simp only[zc,zf,zh];rfl) (fun wq=>dn  wq) Aa (ET (cs:=[zI f0,.bool<|decide (f1.vals.getD ((f0).toNat) 0=((0:Nat):Int))]) (y:=(⟨f0,decide (f1.vals.getD ((f0).toNat) 0=((0:Nat):Int))⟩:GU)) (B:=fb.heap.size) AT XH Nc Z (by decide) Z (Ux (x:=(⟨f0,decide (f1.vals.getD ((f0).toNat) 0=((0:Nat):Int))⟩:GU)) (B:=fb.heap.size) (U:=fb.heap.size) df) (A7 _) Aa fun m0 l8 a7 kj gl=>?_)
  have je:fb.heap.size≤l8.heap.size:=a7.size
  have kk:At S w l8:=dh.ext a7
  have bj:=b4.ext a7
  have g4:=di.ext a7
  have kl:=(C3.rdv b5).ext g1 a7
  have gm:=bi.ext a7
  have hOc38x:=b7.ext (As AL) a7
  have hOg38x:=dk.ext (As AT) a7
  have hOv38x:=b8.ext (AY AI) a7
  refine KZ (v:=vg29) (a:=m0) AT XH Nc Z (by decide) Z Z hOg38x gl (A7 _) (Nat.zero_le _) (Nat.zero_le _) oM (by unfold maxLen;omega) Aa fun lk fd ll b9 dq bk=>?_
  have dr:l8.heap.size≤fd.heap.size:=b9.size
  obtain⟨fm,bu⟩:∃l:List Nat,l=ll++l7:=⟨_,rfl⟩
  have aq:E9 l7 fm fb fd:=by rw[bu];exact⟨fun b hb=>z1 _ hb,fun b hb=>by rcases zi.1 hb with hb|hb;(rcases bk b hb with h9|h9|h9;exact .inl (bt b h9);(have:=a7.size;omega);(have:=a7.size;omega));exact .inl hb,fun b hb=>by rcases zi.1 hb with hb|hb;exact dq.high b hb;(have:=gm.lt b hb;omega),(At.of_ext _ a7).trans (b9.sub bt)⟩
  have ds:C3 52 107 2 fm g fd.heap fl lk vv29 (f1.guard (f0) (decide (f1.vals.getD ((f0).toNat) 0=((0:Nat):Int)))):=⟨Fc38,ll,Fv38,(hOc38x.up a7.size).chgS (As AL) b9 (fun b hb hm=>ap.1 b hm hb),dq,(hOv38x.up a7.size).chgS (AY AI) b9 (fun b hb hm=>ap.2.2 b hb hm),⟨fun b hb hm=>by rcases bk b hm with h9|h9|h9;exact ap.1 b hb h9;(have:=b7.high b hb;omega);(have:=b7.high b hb;have:=a7.size;omega),ap.2.1,fun b hm hb=>by rcases bk b hm with h9|h9|h9;exact ap.2.2 b h9 hb;(have:=b8.high b hb;omega);(have:=b8.high b hb;have:=a7.size;omega)⟩,⟨az.1,fun hm=>by rcases bk g hm with h9|h9|h9;exact az.2.1 h9;omega;omega,az.2.2⟩,by rw[bu];exact⟨fun b hb=>z1 _ (dl b hb),fun b hb=>z8 _ hb,fun b hb=>z1 _ (dm b hb)⟩⟩
  have gn:=bj.chg b9 az.2.1
  have dr:fb.heap.size≤fd.heap.size:=aq.chg.size
  have gp:At S w fd:=dh.stp aq.chg bi.new
  have gq:=di.chg aq.chg fun hm=>b6 hm
  have al:w.heap.size∉fm:=fun hm=>(aq.new _ hm).elim (fun hm=>b6 hm) (fun h9=>by omega)
  have gr:=bi.trans aq
  have jf:(f1.guard (f0) (decide (f1.vals.getD ((f0).toNat) 0=((0:Nat):Int)))).vals.length=f1.vals.length:=rfl
  have jg:(f1.guard (f0) (decide (f1.vals.getD ((f0).toNat) 0=((0:Nat):Int)))).grd.length=f1.grd.length+1:=M2 _ _ _
  refine AZ Z Aa<|Ak (p:=zP g) 1 Ej Z Z Aa<|Ak (p:=Ao (zP g) 1) (b:=g) (o:=1) 2 Le Z Z Aa (Bi (k:=3) (w:=fd) YT Z Z (Bk ds.slg) gn sM Aa fun fe ba km bl=>?_)
  replace bl:BX fe.heap g [vp,zI ip,fl,lk,zN,vv29,zI (l3:Int),zI fg]:=bl
  have ah:At S w fe:=gp.trans (ba.sub (B6 hgS))
  have dt:=C3.chg ds ba
  have aa:=gr.set hgS ba
  have jh:fd.heap.size≤fe.heap.size:=ba.size
  have bm:=gq.chg ba (zB ·)
  refine Aj<|A0<|Z1 [0] Z<|Ac 1 Z ?_
  cases bn:(decide (f1.vals.getD ((f0).toNat) 0=((0:Nat):Int)))
  ·have ji:=of_decide_eq_false bn
   refine Ai (by first|rfl|exact zW bn)<|A2<|Z1 [0,0,2,0,2,0,4,0] Z<|Ad 1 Z<|Ak (p:=zP w.heap.size) 4 Bc Z Z Aa<|Ah (p:=Ao (zP w.heap.size) 4) (.inr Z) ve Bl Z (bm.ldp (i:=4) sM) Aa<|Az (v:=ve) 2 CR Bp Z Z hex.rn.isSl Z sD Aa ?_
   obtain⟨cs60,gs,gt⟩:=hex.rn.get (AD dex) Ex.zero (k:=2) sD
   obtain⟨dd60,cf,kn,rfl,cg⟩:=RX.of gs
   have du:=cg.rn.lenle
   unfold maxLen at du
   refine AO (p:=Ay ve 2 5) (.inr Z) [zI<|(ex.kids.getD 2 Ex.zero).kind,zI<|(ex.kids.getD 2 Ex.zero).num,zI<|(ex.kids.getD 2 Ex.zero).pick,zI<|(ex.kids.getD 2 Ex.zero).count,cf] B7 Z (fun fc ce=>gt fc<|ah.ext ce) Z Aa<|Ad 1 Z ?_
   refine AA 117 [] [] [zP g,.agg #[zI<|(ex.kids.getD 2 Ex.zero).kind,zI<|(ex.kids.getD 2 Ex.zero).num,zI<|(ex.kids.getD 2 Ex.zero).pick,zI<|(ex.kids.getD 2 Ex.zero).count,cf],vv] Z Z Jt Aa (IH2 dd60 oM _ fm g vp dp ip (l3) (fg) p (f1.guard (f0)<|decide (f1.vals.getD ((f0).toNat) 0=((0:Nat):Int))) cf (ex.kids.getD 2 Ex.zero) vv (env) (fun b hb=>(aa.lt b hb:b<fe.heap.size)) (aa.sub _ hgS) ⟨_,_,_,bl,dt⟩ (RN.stp (An<|AH dp) hp ah aa.new) _hip oM oM Fj ⟨cg.rng,RN.stp (An<|AD dd60) cg.rn ah aa.new⟩ (RN.stp g1 henv ah aa.new) hqenv hvp oM (by exact FN hwf oM oM) (zH<|DF (l:=ex.kids) (k:=2) oM) (by exact fun _=>ax.mono (by simp only[M1];omega))) ?_
   rintro mv lm ⟨lo,m1,m2,m3,m4,rfl,ar,⟨m5,vg61,vv61,gu,gv⟩,dv,dw,dx,dy⟩
   refine⟨_,rfl,?_⟩
   have jj:fe.heap.size≤lm.heap.size:=ar.chg.size
   have ko:At S w lm:=ah.stp ar.chg aa.new
   have kp:=bm.chg ar.chg fun hm=>al hm
   have gw:w.heap.size∉m1:=fun hm=>(ar.new _ hm).elim (fun hm=>al hm) (fun h9=>by omega)
   have gx:=aa.trans ar
   have jk:=dv.bnd
   have jl:=dv.num
   have hRv:=dw
   have hL2:=dy
   refine Ac 1 Z<|A1<|AF<|Am ?_
   exact Ag [6] Z (zI lo) Z ⟨lo,_,m2,m3,m4,rfl,gx,⟨_,_,_,gu,gv⟩,⟨Dx,oM⟩,Dw,dx,Dv⟩
  have jm:=of_decide_eq_true bn
  refine Af (by first|rfl|exact zW bn)<|Z1 [0,0,2,0,2,0,4,0] Z<|Ad 1 Z<|Ak (p:=zP w.heap.size) 4 Bc Z Z Aa<|Ah (p:=Ao (zP w.heap.size) 4) (.inr Z) ve Bl Z (bm.ldp (i:=4) sM) Aa<|Az (v:=ve) 1 CR Bp Z Z hex.rn.isSl Z sD Aa ?_
  obtain⟨cs72,gy,gz⟩:=hex.rn.get (AD dex) Ex.zero (k:=1) sD
  obtain⟨dd72,ch,kq,rfl,ci⟩:=RX.of gy
  have dz:=ci.rn.lenle
  unfold maxLen at dz
  refine AO (p:=Ay ve 1 5) (.inr Z) [zI<|(ex.kids.getD 1 Ex.zero).kind,zI<|(ex.kids.getD 1 Ex.zero).num,zI<|(ex.kids.getD 1 Ex.zero).pick,zI<|(ex.kids.getD 1 Ex.zero).count,ch] B7 Z (fun fc ce=>gz fc<|ah.ext ce) Z Aa<|Ad 1 Z ?_
  refine AA 117 [] [] [zP g,.agg #[zI<|(ex.kids.getD 1 Ex.zero).kind,zI<|(ex.kids.getD 1 Ex.zero).num,zI<|(ex.kids.getD 1 Ex.zero).pick,zI<|(ex.kids.getD 1 Ex.zero).count,ch],vv] Z Z Jt Aa (IH2 dd72 oM _ fm g vp dp ip (l3) (fg) p (f1.guard (f0)<|decide (f1.vals.getD ((f0).toNat) 0=((0:Nat):Int))) ch (ex.kids.getD 1 Ex.zero) vv (env) (fun b hb=>(aa.lt b hb:b<fe.heap.size)) (aa.sub _ hgS) ⟨_,_,_,bl,dt⟩ (RN.stp (An<|AH dp) hp ah aa.new) _hip oM oM Fj ⟨ci.rng,RN.stp (An<|AD dd72) ci.rn ah aa.new⟩ (RN.stp g1 henv ah aa.new) hqenv hvp oM (by exact FN hwf oM oM) (zH<|DF (l:=ex.kids) (k:=1) oM) (by exact fun _=>ax.mono (by simp only[M1];omega))) ?_
  rintro mw lp ⟨lq,m6,m7,m8,m9,rfl,au,⟨ma,vg73,vv73,i0,i1⟩,e0,e1,e2,e3⟩
  refine⟨_,rfl,?_⟩
  have jn:fe.heap.size≤lp.heap.size:=au.chg.size
  have kr:At S w lp:=ah.stp au.chg aa.new
  have kt:=bm.chg au.chg fun hm=>al hm
  have i2:w.heap.size∉m6:=fun hm=>(au.new _ hm).elim (fun hm=>al hm) (fun h9=>by omega)
  have i3:=aa.trans au
  have jo:=e0.bnd
  have jp:=e0.num
  have hRv:=e1
  have hL2:=e3
  refine Ac 1 Z<|A1<|Am<|AF<|Am ?_
  exact Ag [6] Z (zI lq) Z ⟨lq,_,m7,m8,m9,rfl,i3,⟨_,_,_,i0,i1⟩,⟨Dx,oM⟩,Dw,e2,Dv⟩
 refine Al false Z Z (A6 db) Aa<|Ac 1 Z<|Ai Z<|Z1 [0,0] Z ?_
 by_cases e4:ex.kind=((9:Nat):Int)
 ·refine Al true Z Z (A5 e4) Aa<|Ac 1 Z<|Af Z<|A0 ?_
  letI:JR:=Rx S
  refine Jx.AW _ [0,0,1,0,1,0,0,0,0,1,0,1,0,3,3,3,4,0] mixed (by kernel_rfl) ?_
  have hwk:=PQ hwf oM
  refine Jx.U0 (zP g) Z Aa<|Jx.Ak (p:=zP w.heap.size) 4 Bc Z Z Aa<|Jx.Y2 (p:=Ao (zP w.heap.size) 4) ve Bl Z (fun wj hj=>(BX.chg (w:=f3.drew) (F:=S) ac hj fun hm=>zH<|hS _ hm).ldp (i:=4) sM) Aa<|Jx.Az (v:=ve) 1 CR Bp Z Z hex.rn.isSl Z sD Aa ?_
  obtain⟨cs84,i4,i5⟩:=hex.rn.get (AD dex) Ex.zero (k:=1) sD
  obtain⟨dd84,cj,ku,rfl,ck⟩:=RX.of i4
  have e5:=ck.rn.lenle
  unfold maxLen at e5
  refine Jx.Vn (p:=Ay ve 1 5) [zI<|(ex.kids.getD 1 Ex.zero).kind,zI<|(ex.kids.getD 1 Ex.zero).num,zI<|(ex.kids.getD 1 Ex.zero).pick,zI<|(ex.kids.getD 1 Ex.zero).count,cj] B7 Z (fun wj hj=>i5 wj<|At.trans a4.drew (show At S f3.drew wj from hj)) Z Aa<|Jx.U0 vv Z Aa<|Jx.Ax 171 [] [] [vv] Z Z Xn Aa (Hr vv) (fun wq=>DL wq vv _ henv.slL hqenv)<|Jx.U0 (zP g) Z Aa<|Jx.Ak (p:=zP w.heap.size) 4 Bc Z Z Aa<|Jx.Y2 (p:=Ao (zP w.heap.size) 4) ve Bl Z (fun wj hj=>(BX.chg (w:=f3.drew) (F:=S) ac hj fun hm=>zH<|hS _ hm).ldp (i:=4) sM) Aa ?_
  refine Jx.Az (v:=ve) 0 CR Bp Z Z hex.rn.isSl Z sD Aa ?_
  obtain⟨cs85,i6,i7⟩:=hex.rn.get (AD dex) Ex.zero (k:=0) sD
  obtain⟨dd85,cl,kv,rfl,cm⟩:=RX.of i6
  have e6:=cm.rn.lenle
  unfold maxLen at e6
  refine Jx.Vn (p:=Ay ve 0 5) [zI<|(ex.kids.getD 0 Ex.zero).kind,zI<|(ex.kids.getD 0 Ex.zero).num,zI<|(ex.kids.getD 0 Ex.zero).pick,zI<|(ex.kids.getD 0 Ex.zero).count,cl] B7 Z (fun wj hj=>i7 wj<|At.trans a4.drew (show At S f3.drew wj from hj)) Z Aa<|Jx.U0 vv Z Aa ?_
  refine Jx.Au 117 [] [] [zP g,.agg #[zI<|(ex.kids.getD 0 Ex.zero).kind,zI<|(ex.kids.getD 0 Ex.zero).num,zI<|(ex.kids.getD 0 Ex.zero).pick,zI<|(ex.kids.getD 0 Ex.zero).count,cl],vv] Z Z Jt Aa (IH2 dd85 oM _ S g vp dp ip (s0+1) (c0) p (T) cl (ex.kids.getD 0 Ex.zero) vv (env) (fun b hb=>(a0.drew.lt b hb:b<f3.heap.size)) (a0.drew.sub _ hgS) ⟨_,_,_,aw,b1⟩ (RN.stp (An<|AH dp) hp a4.drew a0.drew.new) _hip oM oM Fj ⟨cm.rng,RN.stp (An<|AD dd85) cm.rn a4.drew a0.drew.new⟩ (RN.stp g1 henv a4.drew a0.drew.new) hqenv hvp oM (by exact FN hwf oM oM) (zH<|DF (l:=ex.kids) (k:=0) oM) (by exact fun _=>ax)) ?_
  rintro mx fh ⟨l4,lr,mb,mc,me,rfl,ad,⟨mf,vg86,vv86,i8,i9⟩,e7,e8,e9,ea⟩
  refine⟨_,rfl,ad.chg,?_⟩
  replace ad:=ad.of_drew
  have jq:f3.heap.size≤fh.heap.size:=ad.chg.size
  have ia:At S w fh:=a4.stp ad.chg a0.new
  have ib:=ac.chg ad.chg fun hm=>Di
  have bb:w.heap.size∉lr:=fun hm=>(ad.new _ hm).elim (fun hm=>Di) (fun h9=>by omega)
  have ic:=a0.trans ad
  have jr:=e7.bnd
  have js:=e7.num
  have gk:=e8
  have hL1:=ea
  refine Jx.Yl<|BI (u:=zI l4) (B:=fh.heap.size) BB Bm BC Z Z (Nu fh.heap.size fh.heap.size _ ⟨rfl,rfl⟩) (A7 _) Aa ?_
  intro mg l5 b2 kw ie
  refine Aj ?_
  have jt:fh.heap.size≤l5.heap.size:=b2.size
  have eb:At S w l5:=ia.ext b2
  have bo:=i8.ext b2
  have bp:=ib.ext b2
  have ig:=C3.ext i9 b2
  have cn:=ic.ext b2
  refine Jx.Z6<|Sa (v:=vv) (a:=mg) (u:=zI<|l4) (r:=l4) Bm BC Z Z Z (RN.stp g1 henv eb cn.new) ie ⟨[],⟨rfl,rfl,e9⟩,fun b hb=>by cases hb⟩ (fun b hb=>(cn.lt b hb:b<l5.heap.size)) oM (by unfold maxLen;omega) Aa ?_
  intro ls l6 ay ec ed
  refine Aj ⟨JR.ext ay,?_⟩
  have ju:l5.heap.size≤l6.heap.size:=ay.size
  have co:At S w l6:=eb.ext ay
  have bq:=bo.ext ay
  have br:=bp.ext ay
  have ih:=C3.ext ig ay
  have b3:=cn.ext ay
  refine Jx.S0 Z ?_
  refine AA 117 [] [] [zP g,.agg #[zI<|(ex.kids.getD 1 Ex.zero).kind,zI<|(ex.kids.getD 1 Ex.zero).num,zI<|(ex.kids.getD 1 Ex.zero).pick,zI<|(ex.kids.getD 1 Ex.zero).count,cj],ls] Z Z Jt Aa (IH2 dd84 oM _ lr g vp dp ip (mc) (me) p (mb) cj (ex.kids.getD 1 Ex.zero) ls (env++[l4]) (fun b hb=>(b3.lt b hb:b<l6.heap.size)) (b3.sub _ hgS) ⟨_,_,_,bq,ih⟩ (RN.stp (An<|AH dp) hp co b3.new) _hip oM oM Fj ⟨ck.rng,RN.stp (An<|AD dd84) ck.rn co b3.new⟩ ec ed hvp oM (by have h9:=MI hwf oM oM;rw[z4,zd];exact h9) (by have:=DF (l:=ex.kids) (k:=1) oM;rw[z4,zd];omega) (by exact fun h9=>Ir.snoc (ax.mono oM)<|gk h9)) ?_
  rintro my lu ⟨lv,mh,mi,mj,ml,rfl,af,⟨mn,vg99,vv99,ii,ij⟩,ee,ef,eg,eh⟩
  refine⟨_,rfl,?_⟩
  have jv:l6.heap.size≤lu.heap.size:=af.chg.size
  have kx:At S w lu:=co.stp af.chg b3.new
  have jw:=br.chg af.chg fun hm=>bb hm
  have g5:w.heap.size∉mh:=fun hm=>(af.new _ hm).elim (fun hm=>bb hm) (fun h9=>by omega)
  have jx:=RN.stp g1 ec af.chg af.new
  have ik:=b3.trans af
  have jy:=ee.bnd
  have jz:=ee.num
  have hRv:=ef
  have hL2:=eh
  refine Ac 1 Z<|A1<|AF<|Am ?_
  exact Ag [6] Z (zI lv) Z ⟨lv,_,mi,mj,ml,rfl,ik,⟨_,_,_,ii,ij⟩,⟨Dx,oM⟩,Dw,eg,Dv⟩
 refine Al false Z Z (A6 e4) Aa<|Ac 1 Z<|Ai Z<|A2<|Z1 [0,0,2,0,4,0] Z ?_
 have hkg:ex.kind≠1∧ex.kind≠2∧ex.kind≠8∧ex.kind≠9:=by omega
 have l1:=Uh hwf hvp hF
 refine Ad 1 Z<|Ak (p:=zP w.heap.size) 4 Bc Z Z Aa<|Ah (p:=Ao (zP w.heap.size) 4) (.inr Z) ve Bl Z (ac.ldp (i:=4) sM) Aa<|Ad 1 Z ?_
 refine AA 55 [] [] [zP g,ve,vv] Z Z UZ Aa (Np F dex (fun d9 h9=>IH2 d9 oM) _ S g vp dp ip (s0+1) (c0) p (T) ve (ex.kids) vv (env) (fun b hb=>(a0.lt b hb:b<f3.heap.size)) (a0.sub _ hgS) ⟨_,_,_,aw,b1⟩ (RN.stp (An<|AH dp) hp a4 a0.new) _hip oM oM Fj (RN.stp (An<|AD dex) hex.rn a4 a0.new) (RN.stp g1 henv a4 a0.new) hqenv hvp oM (by intro k hk;exact FN hwf hk oM) (by intro k hk;have:=DF (l:=ex.kids) (k:=k) hk;omega) oM (by exact fun _=>ax)) ?_
 rintro mo f4 ⟨f7,f2,f8,f9,f5,f6,rfl,ag,⟨fo,vg109,vv109,aj,av⟩,bv,ei,bc,cp,cq,cr⟩
 refine⟨_,rfl,?_⟩
 have ct:f3.heap.size≤f4.heap.size:=ag.chg.size
 have a8:At S w f4:=a4.stp ag.chg a0.new
 have ae:=ac.chg ag.chg fun hm=>Di
 have ab:w.heap.size∉f8:=fun hm=>(ag.new _ hm).elim (fun hm=>Di) (fun h9=>by omega)
 have a1:=a0.trans ag
 have il:=bv.bnd
 have im:=bv.num
 have hKr:=cr
 have hKb:=cq
 have hKl:=cp
 have am:=ei.rn
 refine Ac 1 Z<|A0<|Z1 [0,0,0,2,0] Z<|Ad 1 Z<|AZ Z Aa<|Ak (p:=zP g) 7 DS Z Z Aa<|Ah (p:=Ao (zP g) 7) (.inr Z) (zI f6) AB Z (aj.ldp (i:=7) sM) Aa ?_
 by_cases bw:f6≠((0:Nat):Int)
 ·refine B5 true Z Z (A5 bw) Aa<|Aj<|Af Z<|Z2 Z<|A1<|Am ?_
  exact Ag [6] Z (zI ((0:Nat):Int)) Z ⟨((0:Nat):Int),_,f9,f5,f6,rfl,a1,⟨_,_,_,aj,av⟩,⟨Dx,oM⟩,Dw,oM,Dv⟩
 refine B5 false Z Z (A6 bw) Aa<|Aj<|Ai Z<|A2<|A0<|Z1 [0,2] Z<|Ak (p:=zP w.heap.size) 0 Bg Z Z Aa<|Ah (p:=Ao (zP w.heap.size) 0) (.inr Z) (zI ex.kind) AB Z (ae.ldp (i:=0) sM) Aa<|Aj<|A3<|Z1 [0,0] Z ?_
 by_cases bx:ex.kind=((10:Nat):Int)
 ·refine Al true Z Z (A5 bx) Aa<|Ac 1 Z<|Af Z<|A0<|AW _ [0,0,0,0,0,1,0,1,0,0,1,0,1,0,1,0,4,0] mixed (by kernel_rfl) ?_
  have hwk:=IQ hwf oM
  refine Ad 2 Z ?_
  have hvo:=hvp.outs (ex.num).toNat oM
  have hvd:=hvp.deep (ex.num).toNat oM (ex.pick).toNat oM
  refine AZ Z Aa<|Ak (p:=zP g) 0 Ou Z Z Aa<|Ak (p:=Ao (zP g) 0) (b:=g) (o:=0) 0 BG Z Z Aa<|Ah (p:=Ao (Ao (zP g) 0) 0) (.inl Z) vp Cb Z (aj.ldp (i:=0) sM) Aa<|Ak (p:=zP w.heap.size) 1 BJ Z Z Aa<|Ah (p:=Ao (zP w.heap.size) 1) (.inl Z) (zI ex.num) AB Z (ae.ldp (i:=1) sM) Aa ?_
  refine Az (v:=vp) ((ex.num).toNat) Gp CN Z Z hp.isSl oM sD Aa ?_
  obtain⟨cs118,ej,bz⟩:=hp.get (AH dp) Fn.zero (k:=(ex.num).toNat) sD
  obtain⟨bd,rfl,be⟩:=RF.of ej
  have cu:=be.rn.lenle
  unfold maxLen at cu
  refine AG (p:=Ay vp ((ex.num).toNat) 3) 2 BU Z (bz _ a8.drew) Aa<|Ah (p:=Ao (Ay vp ((ex.num).toNat) 3) 2) (.inl Z) bd Bl Z ((bz _ a8.drew).ld (i:=2) (by simp[Ef,Eg])) Aa<|Ak (p:=zP w.heap.size) 2 De Z Z Aa<|Ah (p:=Ao (zP w.heap.size) 2) (.inl Z) (zI ex.pick) AB Z (ae.ldp (i:=2) sM) Aa ?_
  refine Az (v:=bd) ((ex.pick).toNat) CR Bp Z Z be.rn.isSl oM sD Aa ?_
  obtain⟨cs119,ek,el⟩:=be.rn.get (AD dp) Ex.zero (k:=(ex.pick).toNat) sD
  obtain⟨dd119,bf,k0,rfl,bg⟩:=RX.of ek
  have cv:=bg.rn.lenle
  unfold maxLen at cv
  refine AO (p:=Ay bd ((ex.pick).toNat) 5) (.inl Z) [zI<|(((p.getD ((ex.num).toNat) Fn.zero).outs).getD ((ex.pick).toNat) Ex.zero).kind,zI<|(((p.getD ((ex.num).toNat) Fn.zero).outs).getD ((ex.pick).toNat) Ex.zero).num,zI<|(((p.getD ((ex.num).toNat) Fn.zero).outs).getD ((ex.pick).toNat) Ex.zero).pick,zI<|(((p.getD ((ex.num).toNat) Fn.zero).outs).getD ((ex.pick).toNat) Ex.zero).count,bf] B7 Z (fun fc ce=>el fc<|a8.drew.ext ce) Z Aa<|Ad 1 Z ?_
  refine AA 117 [] [] [zP g,.agg #[zI<|(((p.getD ((ex.num).toNat) Fn.zero).outs).getD ((ex.pick).toNat) Ex.zero).kind,zI<|(((p.getD ((ex.num).toNat) Fn.zero).outs).getD ((ex.pick).toNat) Ex.zero).num,zI<|(((p.getD ((ex.num).toNat) Fn.zero).outs).getD ((ex.pick).toNat) Ex.zero).pick,zI<|(((p.getD ((ex.num).toNat) Fn.zero).outs).getD ((ex.pick).toNat) Ex.zero).count,bf],f7] Z Z Jt Aa (IH1 (ex.num).toNat oM dd119 _ f8 g vp dp ip (f5) (f6) p (f9) bf (((p.getD ((ex.num).toNat) Fn.zero).outs).getD ((ex.pick).toNat) Ex.zero) f7 (f2) (fun b hb=>(a1.drew.lt b hb:b<f4.heap.size)) (a1.drew.sub _ hgS) ⟨_,_,_,aj,av⟩ (RN.stp (An<|AH dp) hp a8.drew a1.drew.new) _hip oM oM Fj ⟨bg.rng,RN.stp (An<|AD dd119) bg.rn a8.drew a1.drew.new⟩ am bc hvp oM (by have h9:=hvp.wf (ex.num).toNat oM (ex.pick).toNat oM;rw[show(f2.length:Int)=(p.getD (ex.num).toNat Fn.zero).params from by omega];exact h9) oM hKb) ?_
  rintro mp fp ⟨fq,l9,la,lb,lc,rfl,a2,⟨lw,vg120,vv120,em,en⟩,c2,cw,cx,cy⟩
  refine⟨_,rfl,?_⟩
  replace a2:=a2.of_drew
  have io:f4.heap.size≤fp.heap.size:=a2.chg.size
  have k1:At S w fp:=a8.stp a2.chg a1.new
  have k2:=ae.chg a2.chg fun hm=>ab hm
  have g6:w.heap.size∉l9:=fun hm=>(a2.new _ hm).elim (fun hm=>ab hm) (fun h9=>by omega)
  have k3:=RN.stp g1 am a2.chg a2.new
  have eo:=a1.trans a2
  have iq:=c2.bnd
  have ir:=c2.num
  have hRv:=cw
  have hL2:=cy
  refine Ac 1 Z<|A1<|AF<|Am ?_
  exact Ag [6] Z (zI fq) Z ⟨fq,_,la,lb,lc,rfl,eo,⟨_,_,_,em,en⟩,⟨Dx,oM⟩,Dw,cx,Dv⟩
 refine Al false Z Z (A6 bx) Aa<|Ac 1 Z<|Ai Z<|Z1 [0,0] Z ?_
 by_cases c3:ex.kind=((11:Nat):Int)
 ·refine Al true Z Z (A5 c3) Aa<|Ac 1 Z<|Af Z<|A0<|Z1 [0] Z ?_
  have hwk:=IQ hwf oM
  have hwl:=NO hwf oM
  refine Ac 1 Z<|A3 ?_
  have hMs:=av
  have hGs:=a1
  have hns:w.heap.size∉f8:=fun hm=>ab hm
  refine AV (S:=Nat×Value×Sr×List Nat×Tp×Nat×Int×Value×Value×Value) (fun⟨i,vk,ks,S9,T9,s9,c9,fr,vg9,vv9⟩=>([(9,vk),(10,zI (i:Int)),(0,zP g),(4,zP w.heap.size)])) (fun⟨i,vk,ks,S9,T9,s9,c9,fr,vg9,vv9⟩ W=>At S w W∧BX W.heap g [vp,zI ip,fr,vg9,zN,vv9,zI (s9:Int),zI c9]∧BX W.heap w.heap.size [zI ex.kind,zI ex.num,zI ex.pick,zI ex.count,ve]∧i≤(ex.count).toNat∧w.heap.size∉S9∧E9 S S9 w W∧C3 52 107 2 S9 g W.heap fr vg9 vv9 T9∧Te T T9 s0 s9 c9∧RN S9 (B4 rI) W.heap vk ks∧CD vk∧ks.length=(p.getD (ex.num).toNat Fn.zero).outs.length∧(c9=0→Ir T9 ks)∧AN (GV (fun a t U=>Gg (Iz p (ex.num).toNat) (p.getD (ex.num).toNat Fn.zero).outs a t U) i f2 f5 f9) (ks,T9) s9 c9) (fun⟨i,vk,ks,S9,T9,s9,c9,fr,vg9,vv9⟩=>(ex.count).toNat-i) (0,f7,f2,f8,f9,f5,f6,fo,vg109,vv109) ⟨rfl,rfl,rfl,rfl,trivial⟩ ⟨a8,aj,ae,oM,hns,hGs,hMs,(by exact⟨by assumption,zO⟩),(by assumption),(by assumption),oM,hKb,(by exact⟨rfl,rfl,zO⟩)⟩ ?_
  clear j4 j5 hG0 ka d3 ga gb g2 g3 gd b0 a4 b1 a0 d5 ac av ct a8 ae a1
  rintro⟨i,vk,ks,S9,T9,s9,c9,fr,vg9,vv9⟩ ρ131 fa ⟨ak,a5,a6,g7,hnb,hGl,hMl,hPl,hrk,hck,hkl,hkb,hrl9⟩
  have is:w.heap.size≤fa.heap.size:=ak.size
  have k4:=a5.lt
  have k5:=a6.lt
  have hnl:=hPl.num
  have hbl:=hPl.bnd
  refine A0<|Z1 [0,0,2,0,0,0,0,0,2,0,0] Z<|Ad 1 Z<|Ak (p:=zP w.heap.size) 3 CX Z Z Aa<|Ah (p:=Ao (zP w.heap.size) 3) (.inr Z) (zI ex.count) AB Z (a6.ldp (i:=3) sM) Aa ?_
  by_cases c4:(i:Int)<ex.count
  ·refine AC true Z Z (A5 c4) Aa<|Ad 2 Z<|AZ Z (Ae (e:=156) Z Z Z)<|Ak (p:=zP g) 7 DS Z Z (Ae (e:=156) Z Z Z)<|Ah (p:=Ao (zP g) 7) (.inr Z) (zI c9) AB Z (a5.ldp (i:=7) sM) (Ae (e:=156) Z Z Z) ?_
   by_cases c5:c9=((0:Nat):Int)
   ·refine Al true Z Z (A5 c5) (Ae (e:=156) Z Z Z)<|Ac 1 Z<|Af Z<|A2<|A0<|A3<|AW _ [0,0,0,0,0,1,0,1,0,0,1,0,4,0] mixed (by kernel_rfl)<|Ad 2 Z ?_
    have hvo:=hvp.outs (ex.num).toNat oM
    refine AZ Z Aa<|Ak (p:=zP g) 0 Ou Z Z Aa<|Ak (p:=Ao (zP g) 0) (b:=g) (o:=0) 0 BG Z Z Aa<|Ah (p:=Ao (Ao (zP g) 0) 0) (.inl Z) vp Cb Z (a5.ldp (i:=0) sM) Aa<|Ak (p:=zP w.heap.size) 1 BJ Z Z Aa<|Ah (p:=Ao (zP w.heap.size) 1) (.inl Z) (zI ex.num) AB Z (a6.ldp (i:=1) sM) Aa ?_
    refine Az (v:=vp) ((ex.num).toNat) Gp CN Z Z hp.isSl oM sD Aa ?_
    obtain⟨cs136,ep,c6⟩:=hp.get (AH dp) Fn.zero (k:=(ex.num).toNat) sD
    obtain⟨bh,rfl,c7⟩:=RF.of ep
    have cz:=c7.rn.lenle
    unfold maxLen at cz
    refine AG (p:=Ay vp ((ex.num).toNat) 3) 2 BU Z (c6 _ ak.drew) Aa<|Ah (p:=Ao (Ay vp ((ex.num).toNat) 3) 2) (.inl Z) bh Bl Z ((c6 _ ak.drew).ld (i:=2) (by simp[Ef,Eg])) Aa<|Ad 1 Z ?_
    refine AA 55 [] [] [zP g,bh,vk] Z Z UZ Aa (Np (ex.num).toNat dp (fun d9 h9=>IH1 (ex.num).toNat oM d9) _ S9 g vp dp ip (s9) (c9) p (T9) bh ((p.getD ((ex.num).toNat) Fn.zero).outs) vk (ks) (fun b hb=>(hGl.drew.lt b hb:b<fa.heap.size)) (hGl.drew.sub _ hgS) ⟨_,_,_,a5,hMl⟩ (RN.stp (An<|AH dp) hp ak.drew hGl.drew.new) _hip oM oM Fj (RN.stp (An<|AD dp) c7.rn ak.drew hGl.drew.new) hrk hck hvp oM (by intro k hk;have h9:=hvp.wf (ex.num).toNat oM k hk;rw[show(ks.length:Int)=(p.getD (ex.num).toNat Fn.zero).params from by omega];exact h9) (by intro k hk;have:=hvp.deep (ex.num).toNat oM k hk;omega) oM hkb) ?_
    rintro mq fs ⟨lf,ft,ff,fu,fv,fw,rfl,a3,⟨fx,vg137,vv137,eq,er⟩,c8,es,it,iu,iv,iw⟩
    refine⟨_,rfl,?_⟩
    replace a3:=a3.of_drew
    have ix:fa.heap.size≤fs.heap.size:=a3.chg.size
    have et:At S w fs:=ak.stp a3.chg hGl.new
    have eu:=a6.chg a3.chg fun hm=>hnb hm
    have bs:w.heap.size∉ff:=fun hm=>(a3.new _ hm).elim (fun hm=>hnb hm) (fun h9=>by omega)
    have k6:=RN.stp g1 hrk a3.chg a3.new
    have ev:=hGl.trans a3
    have iy:=c8.bnd
    have iz:=c8.num
    have j0:=es.rn
    refine Ac 1 Z<|Ab _ [0,0,0] Z<|Ad 1 Z<|AM ((i+1:Nat):Int) Z Z (Ba oM oM) Aa<|Ac 1 Z ?_
    have hMe:=er
    have hGe:=ev
    have hPe:Te T fu s0 fv fw:=⟨by assumption,zO⟩
    have hne:w.heap.size∉ff:=fun hm=>bs hm
    exact⟨(i+1,lf,ft,ff,fu,fv,fw,fx,vg137,vv137),_,rfl,zR,⟨et,eq,eu,oM,hne,hGe,hMe,hPe,(by assumption),(by assumption),oM,(by assumption),(by exact UE hrl9 oM (by assumption))⟩,zD⟩
   refine Al false Z Z (A6 c5) (Ae (e:=156) Z Z Z)<|Ac 1 Z<|Ai Z<|A4<|Av<|Av<|Aq<|Z1 [0,0,2,0,2,0] Z ?_
   have hkb9:=fun h9:c9=0=>hkb h9 (ex.pick).toNat oM
   refine Ad 1 Z<|Ak (p:=zP w.heap.size) 2 De Z Z Aa<|Ah (p:=Ao (zP w.heap.size) 2) (.inr Z) (zI ex.pick) AB Z (a6.ldp (i:=2) sM) Aa<|Az (v:=vk) ((ex.pick).toNat) Bm BC Z Z hrk.slL oM oM Aa ?_
   have ca:=RN.getI (w:=fa) (k:=(ex.pick).toNat) hrk oM
   refine Ah (p:=Ay vk ((ex.pick).toNat) 1) (.inr Z) (zI<|ks.getD ((ex.pick).toNat) 0) AB Z (ca.1 _<|At.refl _ _) Aa<|Ac 1 Z<|A1<|AF<|Am ?_
   exact Ag [6] Z (zI<|ks.getD ((ex.pick).toNat) 0) Z ⟨ks.getD ((ex.pick).toNat) 0,_,T9,s9,c9,rfl,hGl,⟨_,_,_,a5,hMl⟩,⟨Dx,oM⟩,Dw,ca.2,Dv⟩
  refine AC false Z Z (A6 c4) Aa<|Ac 7 Z<|Ai Z<|A4<|Av<|Av<|Aq<|Z1 [0,0,2,0,2,0] Z ?_
  have hkb9:=fun h9:c9=0=>hkb h9 (ex.pick).toNat oM
  refine Ad 1 Z<|Ak (p:=zP w.heap.size) 2 De Z Z Aa<|Ah (p:=Ao (zP w.heap.size) 2) (.inr Z) (zI ex.pick) AB Z (a6.ldp (i:=2) sM) Aa<|Az (v:=vk) ((ex.pick).toNat) Bm BC Z Z hrk.slL oM oM Aa ?_
  have cb:=RN.getI (w:=fa) (k:=(ex.pick).toNat) hrk oM
  refine Ah (p:=Ay vk ((ex.pick).toNat) 1) (.inr Z) (zI<|ks.getD ((ex.pick).toNat) 0) AB Z (cb.1 _<|At.refl _ _) Aa<|Ac 1 Z<|A1<|AF<|Am ?_
  exact Ag [6] Z (zI<|ks.getD ((ex.pick).toNat) 0) Z ⟨ks.getD ((ex.pick).toNat) 0,_,T9,s9,c9,rfl,hGl,⟨_,_,_,a5,hMl⟩,⟨Dx,oM⟩,Dw,cb.2,Dv⟩
 refine Al false Z Z (A6 c3) Aa<|Ac 1 Z<|Ai Z<|A2<|Z1 [0,0,2,0,0,0,4,0] Z ?_
 have hkb9:=hKb oM
 have l2:3≤ex.kind∧ex.kind≤7:=by have:=(CU (CO hwf)).1;omega
 have hkl:1≤ex.kids.length∧(ex.kind≠7→2≤ex.kids.length):=by by_cases h7:ex.kind=7;(have:=PR hwf h7;omega);(have:=PS hwf oM;omega)
 refine Ad 1 Z<|Ak (p:=zP w.heap.size) 0 Bg Z Z Aa<|Ah (p:=Ao (zP w.heap.size) 0) (.inr Z) (zI ex.kind) AB Z (ae.ldp (i:=0) sM) Aa<|Br (ex.kind-((3:Nat):Int)) Z Z (D3 oM oM) Aa<|AM ex.kind Z Z (Ya oM oM oM) Aa<|Ad 1 Z ?_
 refine AA 172 [] [] [zP g,zI ex.kind,f7] Z Z Xo Aa (Eb _ f8 g vp dp ip (f5) (f6) p (f9) (ex.kind) f7 (f2) (fun b hb=>(a1.lt b hb:b<f4.heap.size)) (a1.sub _ hgS) ⟨_,_,_,aj,av⟩ (RN.stp (An<|AH dp) hp a8 a1.new) _hip oM oM Fj oM am bc oM oM hkb9 oM) ?_
 rintro mr fy ⟨fz,lg,lh,li,rfl,a9,⟨lx,vg148,vv148,ew,ey⟩,j1,j2,d0,d1,d2⟩
 refine⟨_,rfl,?_⟩
 have j3:f4.heap.size≤fy.heap.size:=a9.chg.size
 have k7:At S w fy:=a8.stp a9.chg a1.new
 have k8:=ae.chg a9.chg fun hm=>ab hm
 have g8:w.heap.size∉lg:=fun hm=>(a9.new _ hm).elim (fun hm=>ab hm) (fun h9=>by omega)
 have k9:=RN.stp g1 am a9.chg a9.new
 have ez:=a1.trans a9
 have hRv:=d0
 have hL2:=d2
 refine Ac 1 Z<|A1 ?_
 exact Ag [6] Z (zI fz) Z ⟨fz,_,lh,f5,li,rfl,ez,⟨_,_,_,ew,ey⟩,⟨Dx,oM⟩,Dw,d1,Dv⟩
theorem Ve:∀F d,XW F d:=by
 intro F
 induction F using Nat.strongRecOn with
 |_ F ihF =>
  intro d
  induction d using Nat.strongRecOn with
  |_ d ihd =>
   intro w S g vp dp ip s0 c0 p T ve ex vv env hS hgS a0 hp hip a1 a2 hbd hex henv hqenv hvp hF hwf hdp hen
   exact Gu w S F g vp dp ip s0 c0 p T d ve ex vv env hS hgS a0 hp hip a1 a2 hbd hex henv hqenv hvp hF hwf hdp hen ihF ihd
theorem Vf (F d:Nat):Za F d:=Np F d fun d' _=>Ve F d'
theorem OB {p:Prop}(h:p:=by have h9:=hm;rw[hSd]at h9;have:=A9 h9;omega):p:=h
theorem Ri {p:Prop}(h:p:=by simp only[zc,zf,zh];rfl):p:=h
theorem Kb (w:World)(dp:Nat)(vp:Value)(p:List Fn)(f:Int)(va:Value)(a:Sr)(hp:RP [] dp w.heap vp p)(_hf:Bn f)(ha:RN [] (B4 rI) w.heap va a)(hok:Iw p=true)(hz:RZ p)(hf:0≤f∧f<(p.length:Int))(hl:(a.length:Int)=(p.getD f.toNat Fn.zero).params)(hna:B9 a=true) :
  Calls Tryz.prog 11 #[(.agg #[vp]),zI f,va] w (fun e w'=>∃(i0:Int) (vc vg vo:Value) (xs:Sr) (T':Tp) (s1:Nat) (c1:Int),e=.returned (.tuple #[.agg #[zI i0,vc,vg,vo],zI c1])∧AE w w'∧AN (OR p f.toNat a) (xs,T') s1 c1∧(0≤c1∧c1≤9)∧(∀u∈[vc,vg,vo],u.cells=#[u]∧u.oneCell'=true)∧Bn i0∧(c1=0→i0=(p.getD f.toNat Fn.zero).params∧Ia T' s1∧s1≤3000∧xs.length=(p.getD f.toNat Fn.zero).outs.length∧Ir T' xs∧RG w.heap.size (Cx 4 Ix) w'.heap vc T'.code∧RG w.heap.size (Cx 2 Iy) w'.heap vg T'.grd∧RG w.heap.size (B4 rI) w'.heap vo xs)):=by
 refine Ap [.agg #[vp],zI f,va] 87 Tryz.func11 Z Z sM ?_
 have dq:AE w w:=AE.refl w
 have f7:=hp.lenle
 unfold maxLen at f7
 have f8:=ha.lenL
 unfold maxLen at f8
 have f9:=KW hok
 have fv:=f9.par f.toNat oM
 have fw:=f9.outs f.toNat oM
 have hi:HG p f=0:=by unfold HG;rw[if_pos hok,if_pos oM]
 refine Z1 [3,3,0] Z (Bx (cs:=#[vp]) Z Aa fun w1 cj e8 cf=>?_)
 have ck:=cj.size
 have dr:=dq.trans cj
 replace cf:BX w1.heap w.heap.size [vp]:=cf
 have ey:=cf.lt
 refine Bj (z:=.agg #[zI 0,zN,zN,zN]) XI Aa fun w2 cg e9 cl=>?_
 have cm:=cg.size
 have cn:=dr.trans cg
 have aq:=cf.ext cg
 replace cl:BX w2.heap w1.heap.size [zI 0,zN,zN,zN]:=cl
 refine Ac 1 Z<|Z1 [2,0,3,0] Z<|AO (p:=zP w.heap.size) (.inr Z) [vp] Do Z (fun fj ba=>LD.of_box<|BX.ext (w:=w2) aq ba) Z Aa<|Ad 1 Z<|Au 52 [] [] [.agg #[vp],zI f] Z Z YI Aa (K1 _ dp vp (p) _ (hp.ext (An<|AH dp) cn) _hf hz) ?_
 rintro e4 w4 ⟨rfl,b8⟩
 refine⟨_,rfl,b8,?_⟩
 have co:=b8.size
 have bb:=cn.trans b8
 have ar:=aq.ext b8
 have bc:=cl.ext b8
 refine Ac 1 Z<|A0<|Z1 [0,0,0,0,0,2,0,0,0,2,3,0,0] Z<|Ad 1 Z ?_
 have ea:HG p f=((0:Nat):Int):=hi
 refine Al true Z Z (A5 ea) Aa<|Ad 2 Z<|Ak (p:=zP w.heap.size) 0 BG Z Z (Ae (e:=18) Z Z Z)<|Ah (p:=Ao (zP w.heap.size) 0) (.inr Z) vp Cb Z (ar.ldp (i:=0) sM) (Ae (e:=18) Z Z Z)<|Ad 1 Z<|Az (v:=vp) ((f).toNat) Gp CN Z Z hp.isSl oM sD (Ae (e:=18) Z Z Z) ?_
 obtain⟨cs6,eb,ch⟩:=hp.get (AH dp) Fn.zero (k:=(f).toNat) sD
 obtain⟨ez,rfl,ds⟩:=RF.of eb
 have bd:=ds.rn.lenle
 unfold maxLen at bd
 refine AG (p:=Ay vp ((f).toNat) 3) 1 Co Z (ch _<|At.of_ext [] bb) (Ae (e:=18) Z Z Z)<|Ah (p:=Ao (Ay vp ((f).toNat) 3) 1) (.inr Z) (zI<|(p.getD ((f).toNat) Fn.zero).params) AB Z ((ch _<|At.of_ext [] bb).ld (i:=1) (by simp[Ef,Eg])) (Ae (e:=18) Z Z Z)<|Au 53 [] [] [va,zI<|(p.getD ((f).toNat) Fn.zero).params] Z Z UY (Ae (e:=18) Z Z Z) (Df _ _ _ _ (ha.ext g1 bb).rd ds.rng) ?_
 rintro e7 w7 ⟨rfl,b9⟩
 refine⟨_,rfl,b9,?_⟩
 have cp:=b9.size
 have ci:=bb.trans b9
 have ae:=ar.ext b9
 have au:=bc.ext b9
 rw[show(decide ((a.length:Int)=((p.getD ((f).toNat) Fn.zero).params)) && B9 a)=true from(by rw[A5 oM,hna];rfl)]
 refine Bq false Z Z (Ae (e:=18) Z Z Z)<|Ac 1 Z<|Ai Z<|A2<|A0<|Z1 [0,0] Z<|Ad 1 Z ?_
 have ec:¬(HG p f≠((0:Nat):Int)):=(fun h9=>h9 hi)
 refine B5 false Z Z (A6 ec) Aa<|Aj<|Ai Z<|A2<|A0<|AW _ [1,0,1,0,0,0,1,0,0,3,0] mixed (by kernel_rfl)<|AO (p:=zP w.heap.size) (.inl Z) [vp] Do Z (fun fj ba=>LD.of_box<|BX.ext (w:=w7.drew) ae ba) Z Aa<|Ak (p:=zP w.heap.size) 0 BG Z Z Aa<|Ah (p:=Ao (zP w.heap.size) 0) (.inl Z) vp Cb Z (ae.ldp (i:=0) sM) Aa<|Ad 1 Z ?_
 refine Az (v:=vp) ((f).toNat) Gp CN Z Z hp.isSl oM sD Aa<|AG (p:=Ay vp ((f).toNat) 3) 1 Co Z (ch _<|At.of_ext [] ci.drew) Aa<|Ah (p:=Ao (Ay vp ((f).toNat) 3) 1) (.inl Z) (zI<|(p.getD ((f).toNat) Fn.zero).params) AB Z ((ch _<|At.of_ext [] ci.drew).ld (i:=1) (by simp[Ef,Eg])) Aa ?_
 have cq:∀(wq:World),(Instr.build 39 #[(0,zI ((p.getD ((f).toNat) Fn.zero).params))]).run Tryz.prog wq=.ok (.agg #[zI ((p.getD ((f).toNat) Fn.zero).params),zN,zN,zN]) wq:=by intro wq;kernel_rfl
 refine C1 (ps:=#[(0,zI<|(p.getD ((f).toNat) Fn.zero).params)]) (.agg #[zI<|(p.getD ((f).toNat) Fn.zero).params,zN,zN,zN]) Ri (fun wq=>cq  wq) Aa ?_
 have be:∀(vp:Value) (f2:Nat) (h10_0:Ek vp f2) (wq:World),(Instr.build 100 #[(0,.agg #[vp]),(1,.agg #[zI ((p.getD ((f).toNat) Fn.zero).params),zN,zN,zN])]).run Tryz.prog wq=.ok (.agg #[vp,zI ((p.getD ((f).toNat) Fn.zero).params),zN,zN,zN,zN,zI 0,zI 0]) wq:=by intro vp f2 h10_0 wq;obtain⟨a10_0,fk,rfl,_⟩:=h10_0;kernel_rfl
 refine C1 (ps:=#[(0,.agg #[vp]),(1,.agg #[zI<|(p.getD ((f).toNat) Fn.zero).params,zN,zN,zN])]) (.agg #[vp,zI<|(p.getD ((f).toNat) Fn.zero).params,zN,zN,zN,zN,zI 0,zI 0]) Ri (fun wq=>be vp _ hp.isSl wq) Aa ?_
 have ed:=ae.lt
 have ee:=au.lt
 refine Bx (cs:=#[vp,zI<|(p.getD ((f).toNat) Fn.zero).params,zN,zN,zN,zN,zI 0,zI 0]) Z Aa fun f0 a9 cr ak=>?_
 replace a9:=a9.of_drew
 have bf:=a9.size
 have bg:=ci.trans a9
 have av:=ae.ext a9
 have aw:=au.ext a9
 replace ak:BX f0.heap w7.drew.heap.size [vp,zI ((p.getD ((f).toNat) Fn.zero).params),zN,zN,zN,zN,zI 0,zI 0]:=ak
 refine Ac 1 Z<|Z1 [3,0] Z ?_
 obtain⟨S,hSd⟩:∃S:List Nat,S=[w7.heap.size]:=⟨_,rfl⟩
 have hgS:w7.heap.size∈S:=by rw[hSd];exact List.mem_singleton.2 Z
 have hlr:w7.heap.size<f0.heap.size:=BX.lt ak
 have hMb:C3 52 107 2 S w7.heap.size f0.heap zN zN zN (HF a 0):=C3.nil
 have hGb:E9 S S w f0:=⟨fun _ h=>h,fun b hb=>.inl hb,fun b hb=>by rw[hSd]at hb;have:=A9 hb;omega,At.of_ext S bg⟩
 have hEb:At S w f0:=hGb.chg
 have hSn:∀b∈S,w.heap.size≤b:=fun b hb=>by rw[hSd]at hb;have:=A9 hb;omega
 have hBb:BX f0.heap w7.heap.size [vp,zI ((p.getD f.toNat Fn.zero).params),zN,zN,zN,zN,zI ((0:Nat):Int),zI ((0:Nat):Int)]:=ak
 have ax:RN S (Cx 3 (T0 dp)) w.heap vp p:=by rw[hSd];exact RN.add (An (AH dp)) hp (fun b hb=>zH<|A9 hb)
 have ay:RN S (B4 rI) w.heap va a:=by rw[hSd];exact RN.add g1 ha (fun b hb=>zH<|A9 hb)
 refine CH (rI) AI Bm BC Aa fun fp fl a4 ct bh=>?_
 have bi:f0.heap.size≤fl.heap.size:=a4.size
 have bj:At S w fl:=hEb.ext a4
 have az:=av.ext a4
 have b0:=aw.ext a4
 have b1:=hBb.ext a4
 have bk:=C3.ext hMb a4
 have bl:=hGb.ext a4
 refine Ac 1 Z<|A0<|Z1 [0,0,0] Z<|Ad 1 Z<|AP (v:=va) Bm Z ay.slL Aa<|Ac 1 Z<|A3 ?_
 have hBO:w.heap.size≤f0.heap.size∧w7.heap.size<f0.heap.size:=by omega
 have bm:w.heap.size∉S:=fun hm=>OB
 have bn:w1.heap.size∉S:=fun hm=>OB
 obtain⟨Fo0,bo⟩:=Ow.of_fr bh (A7 _)
 have cu:∀b∈Fo0,b∉S:=fun b hb hm=>by have:=bo.low b hb;have:=hGb.lt b hm;omega
 have hMs:=bk
 have hGs:=bl
 have hnswheaps:w.heap.size∉S:=fun hm=>OB
 have hnsw1heap:w1.heap.size∉S:=fun hm=>OB
 refine AV (S:=Nat×Value×Sr×List Nat×List Nat×Value×Value×Value) (fun⟨k,vo,xs,Fo,S9,fa,vg9,vv9⟩=>([(10,vo),(46,zI (k:Int)),(1,zI f),(3,zP w.heap.size),(6,zP w1.heap.size),(9,zP w7.heap.size),(44,va),(45,zI (a.length:Int))])) (fun⟨k,vo,xs,Fo,S9,fa,vg9,vv9⟩ W=>At S w W∧BX W.heap w.heap.size [vp]∧BX W.heap w1.heap.size [zI 0,zN,zN,zN]∧BX W.heap w7.heap.size [vp,zI (p.getD f.toNat Fn.zero).params,fa,vg9,zN,vv9,zI ((0:Nat):Int),zI ((0:Nat):Int)]∧k≤a.length∧f0.heap.size≤W.heap.size∧E9 S S9 w W∧C3 52 107 2 S9 w7.heap.size W.heap fa vg9 vv9 (HF a k)∧Ow (B8 rI 2) f0.heap.size W.heap.size W.heap vo xs Fo∧(∀b∈Fo,b∉S9)∧xs=Fq k∧w.heap.size∉S9∧w1.heap.size∉S9) (fun⟨k,vo,xs,Fo,S9,fa,vg9,vv9⟩=>a.length-k) (0,fp,[],Fo0,S,zN,zN,zN) ⟨rfl,rfl,rfl,rfl,rfl,rfl,rfl,rfl,trivial⟩ ⟨bj,az,b0,b1,oM,oM,hGs,hMs,bo,cu,(by rfl),bm,bn⟩ ?_
 clear dq e8 cj ck dr e9 cg cm cn b8 co bb bd b9 cp ci cr a9 bf bg bh ct a4 bi bj bk bl
 rintro⟨k,vo,xs,Fo,S9,fa,vg9,vv9⟩ ρ21 fb ⟨a5,a3,aa,ab,cv,hbw,hGl,hMl,hOl,hdl,hxe,af,ag⟩
 have dt:w.heap.size≤fb.heap.size:=a5.size
 have ef:=a3.lt
 have eg:=aa.lt
 have eh:=ab.lt
 refine Z1 [0] Z ?_
 by_cases bp:(k:Int)<(a.length:Int)
 ·refine AC true Z Z (A5 bp) Aa<|Aj<|A0<|Af Z<|A2<|A0<|A3<|Z1 [0,0,2,0,0] Z ?_
  have hak:=C9 hna k
  have hvk:=Ib a k
  have hxk:xs.length=k:=by rw[hxe,EC]
  refine Ad 1 Z<|Az (v:=va) k Bm BC Z Z ay.slL Z sD Aa ?_
  have bq:=RN.getI (w:=w) (k:=k) ay sD
  refine Ah (p:=Ay va k 1) (.inr Z) (zI<|a.getD k 0) AB Z (bq.1 _ a5) Aa<|Ac 2 Z<|Ab _ [0,0,0,0,0,4,3,4,0] Z<|Ad 3 Z ?_
  have br:∀(wq:World),(Instr.build 52 #[(0,zI ((1:Nat):Int)),(3,zI (k:Int))]).run Tryz.prog wq=.ok (.agg #[zI ((1:Nat):Int),zI 0,zI 0,zI (k:Int)]) wq:=by intro wq;kernel_rfl
  refine C1 (ps:=#[(0,zI ((1:Nat):Int)),(3,zI (k:Int))]) (.agg #[zI ((1:Nat):Int),zI 0,zI 0,zI (k:Int)]) Ri (fun wq=>br  wq) Aa<|Ad 1 Z ?_
  refine AA 54 [] [] [zP w7.heap.size,.agg #[zI ((1:Nat):Int),zI (0:Int),zI (0:Int),zI (k:Int)],zI<|a.getD k 0] Z Z SJ Aa (Ci _ S9 w7.heap.size vp ((p.getD f.toNat Fn.zero).params) (0) ((0:Nat):Int) (HF a k) (⟨((1:Nat):Int),(0:Int),(0:Int),(k:Int)⟩:Aw) (a.getD k 0) (fun b hb=>(hGl.lt b hb:b<fb.heap.size)) (hGl.sub _ hgS) ⟨_,_,_,ab,hMl⟩ oM (by rw[L3,Ib];omega) ⟨(show Bn ((1:Nat):Int)from by omega),(show Bn (0:Int)from by omega),(show Bn (0:Int)from by omega),(show Bn (k:Int)from by omega)⟩ bq.2) ?_
  rintro fx f6 ⟨f3,rfl,a0,ff,vg28,vv28,cw,cx⟩
  refine⟨_,rfl,?_⟩
  have du:fb.heap.size≤f6.heap.size:=a0.chg.size
  have cy:At S w f6:=a5.stp a0.chg hGl.new
  have cz:=a3.chg a0.chg fun hm=>af hm
  have b2:w.heap.size∉f3:=fun hm=>(a0.new _ hm).elim (fun hm=>af hm) (fun h9=>by omega)
  have d0:=aa.chg a0.chg fun hm=>ag hm
  have b3:w1.heap.size∉f3:=fun hm=>(a0.new _ hm).elim (fun hm=>ag hm) (fun h9=>by omega)
  have d1:=hOl.keep (AY AI) a0.chg fun b hb hm=>hdl b hm hb
  have ai:∀b∈Fo,b∉f3:=fun b hb hm=>(a0.new b hm).elim (hdl b hb) (fun h9=>zH<|hOl.high b hb)
  have d2:=hGl.trans a0
  have dv:((HF a k).put (⟨((1:Nat):Int),(0:Int),(0:Int),(k:Int)⟩:Aw) (a.getD k 0)).vals.length=(HF a k).vals.length+1:=EX _ _ _
  have dw:((HF a k).put (⟨((1:Nat):Int),(0:Int),(0:Int),(k:Int)⟩:Aw) (a.getD k 0)).grd.length=(HF a k).grd.length:=rfl
  refine (BI (u:=zI (((HF a k).vals.length:Nat):Int)) (B:=f6.heap.size) AI Bm BC Z Z (KL f6.heap.size f6.heap.size _ _ oM) (A7 _) Aa ?_)
  intro fq fg a6 ei d3
  have dx:f6.heap.size≤fg.heap.size:=a6.size
  have d4:At S w fg:=cy.ext a6
  have al:=cz.ext a6
  have am:=d0.ext a6
  have an:=cw.ext a6
  have d5:=C3.ext cx a6
  have bs:=d2.ext a6
  have hO38k:=d1.ext (AY AI) a6
  refine Jg (v:=vo) (a:=fq) Bm BC Z Z Z hO38k d3.rd1 oM sD (by unfold maxLen;first|omega|assumption|(simp;done)|(simp;omega)) Aa fun fs fm fo ac ej d6=>?_
  have dy:fg.heap.size≤fm.heap.size:=ac.size
  have d7:At S w fm:=d4.fresh ac (fun c hc=>zH<|hO38k.low c hc)
  have ek:∀b∈fo,b∉f3:=fun b hb hm=>(d6 b hb).elim (fun h9=>ai b h9 hm) (fun h9=>zH<|bs.lt b hm)
  have d8:=C3.chgO d5 ac ai
  have d9:=bs.fresh ac fun c hc=>zH<|hO38k.low c hc
  have da:=al.chg ac fun hm=>zH<|hO38k.low _ hm
  have db:=am.chg ac fun hm=>zH<|hO38k.low _ hm
  have dc:=an.chg ac fun hm=>zH<|hO38k.low _ hm
  refine Ac 1 Z<|Ab _ [0,0] Z<|AM ((k+1:Nat):Int) Z Z (Ba oM oM) Aa<|Ac 1 Z ?_
  have hMe:=d8
  have hGe:=d9
  have bt:w.heap.size∉f3:=fun hm=>b2 hm
  have bu:w1.heap.size∉f3:=fun hm=>b3 hm
  exact⟨(k+1,fs,xs++[(((HF a k).vals.length:Nat):Int)],fo,f3,ff,vg28,vv28),_,rfl,zR,⟨d7,da,db,dc,oM,oM,hGe,hMe,(by assumption),(by assumption),(by rw[hxe,Ib];exact(MS k).symm),bt,bu⟩,zD⟩
 refine AC false Z Z (A6 bp) Aa<|Aj<|A0<|Ai Z<|A4<|Av<|Av<|Aq<|Z1 [0,0,0,2,0,0,0,2,0,4,0,0,0,4] Z ?_
 have hkl:k=a.length:=by omega
 refine Ad 2 Z<|Ak (p:=zP w.heap.size) 0 BG Z Z Aa<|Ah (p:=Ao (zP w.heap.size) 0) (.inr Z) vp Cb Z (a3.ldp (i:=0) sM) Aa<|Ad 1 Z<|Az (v:=vp) ((f).toNat) Gp CN Z Z ax.isSl oM sD Aa ?_
 obtain⟨cs46,dd,bv⟩:=ax.get (AH dp) Fn.zero (k:=(f).toNat) sD
 obtain⟨b4,rfl,bw⟩:=RF.of dd
 have bx:=bw.rn.lenle
 unfold maxLen at bx
 refine AG (p:=Ay vp ((f).toNat) 3) 2 BU Z (bv _ a5) Aa<|Ah (p:=Ao (Ay vp ((f).toNat) 3) 2) (.inr Z) b4 Bl Z ((bv _ a5).ld (i:=2) (by simp[Ef,Eg])) Aa<|Ad 1 Z ?_
 refine AA 55 [] [] [zP w7.heap.size,b4,vo] Z Z UZ Aa (Vf f.toNat dp _ S9 w7.heap.size vp dp ((p.getD f.toNat Fn.zero).params) (0) ((0:Nat):Int) p (HF a k) b4 ((p.getD ((f).toNat) Fn.zero).outs) vo (xs) (fun b hb=>(hGl.lt b hb:b<fb.heap.size)) (hGl.sub _ hgS) ⟨_,_,_,ab,hMl⟩ (RN.stp (An<|AH dp) ax a5 hGl.new) oM oM oM (by rw[hkl];exact Vy hna oM) (RN.stp (An<|AD dp) bw.rn a5 hGl.new) (RN.of_ow hOl hdl) hOl.fr.cap f9 oM (by intro j hj;have h9:=f9.wf f.toNat oM j hj;rw[hxe,EC,hkl,hl];exact h9) (by intro j hj;have h9:=f9.deep f.toNat oM j hj;rw[hxe,EC];omega) oM (by exact fun _=>by rw[hxe];exact Vz a k)) ?_
 rintro fy fd ⟨fc,ft,fe,fz,fu,f4,rfl,a1,⟨f1,vg47,vv47,de,df⟩,bz,c0,dz,c2,c3,c4⟩
 refine⟨_,rfl,?_⟩
 have e0:fb.heap.size≤fd.heap.size:=a1.chg.size
 have dg:At S w fd:=a5.stp a1.chg hGl.new
 have dh:=a3.chg a1.chg fun hm=>af hm
 have di:w.heap.size∉fe:=fun hm=>(a1.new _ hm).elim (fun hm=>af hm) (fun h9=>by omega)
 have dj:=aa.chg a1.chg fun hm=>ag hm
 have aj:w1.heap.size∉fe:=fun hm=>(a1.new _ hm).elim (fun hm=>ag hm) (fun h9=>by omega)
 have b5:=hOl.keep (AY AI) a1.chg fun b hb hm=>hdl b hm hb
 have dk:∀b∈Fo,b∉fe:=fun b hb hm=>(a1.new b hm).elim (hdl b hb) (fun h9=>zH<|hOl.high b hb)
 have c5:=hGl.trans a1
 have e1:=bz.bnd
 have e2:=bz.num
 have hKr:=c4
 have hKb:=c3
 have hKl:=c2
 rw[hxe,hkl]at hKr
 replace hKr:=AN.go0 hKr
 have c6:=c0.rn
 refine AZ Z Aa<|Ak (p:=zP w7.heap.size) 1 Ej Z Z Aa<|Ak (p:=Ao (zP w7.heap.size) 1) (b:=w7.heap.size) (o:=1) 3 FR Z Z Aa (Bi (k:=4) (w:=fd) P3 Z Z (Bk c6.slL) de sM Aa fun f5 a7 el ad=>?_)
 replace ad:BX f5.heap w7.heap.size [vp,zI ((p.getD f.toNat Fn.zero).params),f1,vg47,fc,vv47,zI (fu:Int),zI f4]:=ad
 have c7:At S w f5:=dg.trans (a7.sub (B6 hgS))
 have ao:=C3.chg df a7
 have c8:=c5.set hgS a7
 have e3:fd.heap.size≤f5.heap.size:=a7.size
 have c9:=dh.chg a7 (zB ·)
 have ca:=dj.chg a7 (zB ·)
 have ah:=b5.keep (AY AI) a7 fun b hb hm=>by have:=A9 hb;have:=b5.low _ hm;have:=b5.high _ hm;omega
 have hF63l:=c0.upd g1 a7 fun b hb=>by rw[A9 hb];exact .inl (c5.sub _ hgS)
 have dl:=hF63l.rn
 refine Aj<|A0<|Z1 [0,0,0,2,0] Z<|Ad 1 Z<|AZ Z Aa<|Ak (p:=zP w7.heap.size) 7 DS Z Z Aa<|Ah (p:=Ao (zP w7.heap.size) 7) (.inr Z) (zI f4) AB Z (ad.ldp (i:=7) sM) Aa ?_
 by_cases cb:f4≠((0:Nat):Int)
 ·refine B5 true Z Z (A5 cb) Aa<|Aj<|Af Z<|A0 ?_
  letI:JR:=Rx [w1.heap.size]
  refine Jx.AW _ [0,0,0,0,1,3,0] mixed (by kernel_rfl)<|Jx.j1 ?_
  have cc:∀(wq:World),(Instr.build 39 #[]).run Tryz.prog wq=.ok (.agg #[zI 0,zN,zN,zN]) wq:=by intro wq;kernel_rfl
  refine C1 (ps:=#[]) (.agg #[zI 0,zN,zN,zN]) (by simp only[zc,zf,zh]) (fun wq=>cc  wq) Aa<|Aj<|Jx.U0 (zP w7.heap.size) Z Aa<|Jx.j1<|AZ Z Aa<|Aj<|Jx.Ak (p:=zP w7.heap.size) 7 DS Z Z Aa<|Jx.Y2 (p:=Ao (zP w7.heap.size) 7) (zI f4) AB Z (fun wj hj=>(BX.chg (w:=f5.drew) (F:=[w1.heap.size]) ad hj (zB ·)).ldp (i:=7) sM) Aa<|Jx.Z6 ?_
  refine Bw (vs:=[zI (0:Int),zN,zN,zN]) Cz Z Z (by intro u hu;simp only[ze,z2,or_false]at hu;rcases hu with rfl|rfl|rfl|rfl <;> first|exact⟨rfl,rfl⟩) ca Z Z Aa fun fh a2 em b6=>?_
  replace a2:=a2.of_drew
  replace b6:BX fh.heap w1.heap.size [zI (0:Int),zN,zN,zN]:=b6
  have en:At S w fh:=c7.fresh a2 (fun _ h=>zE h)
  have eo:=C3.chgO ao a2 fun b hb hm=>by rw[A9 hb]at hm;exact aj hm
  have dm:=c8.fresh a2 fun _ h=>zE h
  have e5:f5.heap.size≤fh.heap.size:=a2.size
  have ep:=c9.chg a2 (zB ·)
  have eq:=ad.chg a2 (zB ·)
  have er:=ah.keep (AY AI) a2 fun b hb hm=>by have:=A9 hb;have:=ah.low _ hm;have:=ah.high _ hm;omega
  have hF73l:=hF63l.upd g1 a2 fun b hb=>by rw[A9 hb];(right;omega)
  have es:=hF73l.rn
  refine Aj ⟨At.drewL a2,?_⟩
  exact Jx.Pc (zI f4) Z Aa<|Jx.Aj<|A1<|Am<|I7 (t0:=7) (ts:=[]) (cs:=[zI (0:Int),zN,zN,zN]) [zI f4] Z Cz Z b6 Z Z ⟨_,_,_,_,_,_,_,_,rfl,At.toExt dm.chg hSn,hKr,oM,(by intro u hu;simp only[ze,z2,or_false]at hu;rcases hu with rfl|rfl|rfl <;> exact⟨rfl,rfl⟩),(by show Bn _;unfold Bn;omega),(fun h9=>absurd h9 oM)⟩
 refine B5 false Z Z (A6 cb) Aa<|Aj<|Ai Z<|A2<|Z1 [0,0,0,2,4,0] Z<|Ad 1 Z<|AZ Z Aa<|Ak (p:=zP w7.heap.size) 1 Ej Z Z Aa<|AO (p:=Ao (zP w7.heap.size) 1) (.inr Z) [zI<|(p.getD f.toNat Fn.zero).params,f1,vg47,fc] Cz Z (fun fj ba=>LD.part (BX.ext (w:=f5) ad ba) (by show(5:Nat)≤8;decide) (by intro i hi;match i,hi with|0,_=>rfl|1,_=>rfl|2,_=>rfl|3,_=>rfl)) Z Aa ?_
 refine Bw (vs:=[zI<|(p.getD f.toNat Fn.zero).params,f1,vg47,fc]) Cz Z Z (by intro u hu;simp only[ze,z2,or_false]at hu;rcases hu with rfl|rfl|rfl|rfl <;> first|exact⟨rfl,rfl⟩|exact Bk (C3.slc ao)|exact Bk (C3.slg ao)|exact Bk dl.slL) ca Z Z Aa fun fi a8 et b7=>?_
 replace b7:BX fi.heap w1.heap.size [zI ((p.getD f.toNat Fn.zero).params),f1,vg47,fc]:=b7
 have eu:At S w fi:=c7.fresh a8 (fun _ h=>zE h)
 have ap:=C3.chgO ao a8 fun b hb hm=>by rw[A9 hb]at hm;exact aj hm
 have cd:=c8.fresh a8 fun _ h=>zE h
 have e6:f5.heap.size≤fi.heap.size:=a8.size
 have ev:=c9.chg a8 (zB ·)
 have ew:=ad.chg a8 (zB ·)
 have ex:=ah.keep (AY AI) a8 fun b hb hm=>by have:=A9 hb;have:=ah.low _ hm;have:=ah.high _ hm;omega
 have hF81l:=hF63l.upd g1 a8 fun b hb=>by rw[A9 hb];(right;omega)
 have dn:=hF81l.rn
 refine Ac 1 Z<|A1 ?_
 have ce:∀b∈fe,w.heap.size≤b:=fun b hb=>(cd.new b hb).elim (hSn b) id
 exact I7 (t0:=7) (ts:=[]) (cs:=[zI<|(p.getD f.toNat Fn.zero).params,f1,vg47,fc]) [zI ((0:Nat):Int)] Z Cz Z b7 Z Z ⟨_,_,_,_,_,_,_,_,rfl,At.toExt cd.chg hSn,(by have h9:=hKr;rwa [show f4=((0:Nat):Int)from by omega]at h9),oM,(by intro u hu;simp only[ze,z2,or_false]at hu;rcases hu with rfl|rfl|rfl;exact Bk (C3.slc ap);exact Bk (C3.slg ap);exact RN.one1 g1 dn),(by show Bn _;unfold Bn;omega),(fun _=>⟨rfl,by assumption,zO,hKl,hKb oM,(C3.readsG ap ce).1,(C3.readsG ap ce).2,OQ.rg hF81l oM⟩)⟩
theorem EK (w:World)(n:Int)(vo:Nat)(ord:Int)(_hn:Bn n)(hcord:Fx w.heap (zP vo)=some (zI ord))(_hord:Bn ord)(ho:0≤ord∧ord≤12) :
  Calls Tryz.prog 178 #[zI n,zP vo] w (fun e w'=>∃v0:Value,e=.returned (v0)∧AE w w'∧Fr (B8 rI 2) w.heap.size w'.heap.size w'.heap v0 (Lu (ord.toNat+1) n)):=by
 refine Ap [zI n,zP vo] 12 Tryz.func178 Z Z sM ?_
 have a0:AE w w:=AE.refl w
 refine Z2 Z<|Z1 [2,0,3,0] Z<|Ah (.inr Z) (zI ord) JX Z (Bb a0 hcord) Aa<|AM ((ord.toNat+1:Nat):Int) Z Z (Ba oM oM) Aa (FI (n:=ord.toNat+1) Bm BC Z Z Z sD Aa fun v1 w1 a1 aa a2=>?_)
 have a5:=a1.size
 have a3:=a0.trans a1
 refine Ac 1 Z<|Z1 [0,0,0,4] Z<|Ad 2 Z<|Az (v:=v1) 0 Bm BC Z Z a2.isSl Z sM Aa (GK (v:=v1) (w:=w1) GD Z Z _hn a2 sM Aa fun w2 F2 a4 ab a6 a7=>?_)
 have a8:AE w w2:=a4.below a3 (fun c hc=>A8 (A7 _) (a6 c hc).1) a3.size
 have a9:w1.heap.size≤w2.heap.size:=a4.size
 exact Aj<|Z1 [0,0] Z<|Ac 2 Z<|A1<|Ag [3] Z v1 Z ⟨v1,rfl,a8,a7.up o1⟩
theorem Hb {p:Prop}(h:p:=by first|(rw[CP oM,IS oM];exact⟨_,_,by assumption⟩)|(rw[CP oM,HH oM];exact⟨_,_,by assumption⟩)|(rw[CP oM,HI oM];exact⟨_,_,by assumption⟩)|(rw[CP oM,HJ oM];exact⟨_,_,by assumption⟩)|(rw[CP oM,HK oM];exact⟨_,_,by assumption⟩)|(rw[CP oM,HL oM];exact⟨_,_,by assumption⟩)|(rw[CP oM,HM oM];exact⟨_,_,by assumption⟩)):p:=h
theorem Hc {p:Prop}(h:p:=by unfold maxLen;first|omega|assumption|(simp only[zb,z9,z4,z6,z5];omega)|(simp[zb,z9,z4,z6,z5];done)|(simp[zb,z9,z4,z6,z5];omega)):p:=h
theorem Hd {p:Prop}(h:p:=by first|exact Sn hzk oM|exact So hzk oM):p:=h
theorem He {p:Prop}(h:p:=by exact O4 hR hsA (hform k hkl) hkl):p:=h
theorem Dp (w:World)(ipT:Int)(vtc vtg vtx:Value)(T:Tp)(oT:Sr)(va:Value)(A:List (Sr))(ord:Int)(_hipT:Bn ipT)(htcT:RN [] (Cx 4 Ix) w.heap vtc T.code)(htgT:RN [] (Cx 2 Iy) w.heap vtg T.grd)(htoT:RN [] (B4 rI) w.heap vtx oT)(hA:RN [] (B4 (B4 rI)) w.heap va A)(hqA:CD va)(_hord:Bn ord)(ho:0≤ord∧ord≤12)(hsA:CB (ord.toNat+1) A)(hform:∀k,k<T.code.length→Dj A.length k (T.code.getD k Aw.zero))(hlt:T.code.length≤4000) :
  Calls Tryz.prog 123 #[(.agg #[(zI ipT),vtc,vtg,vtx]),va,zI ord] w (fun e w'=>∃(v0:Value) (c1:Int),e=.returned (.tuple #[v0,zI c1])∧AE w w'∧MW (ord.toNat+1) A T.code c1∧(c1=0→RN [] (B4 (B4 rI)) w'.heap v0 (Bz (ord.toNat+1) A T.code)∧CD v0)):=by
 refine Ap [.agg #[zI ipT,vtc,vtg,vtx],va,zI ord] 109 Tryz.func123 Z Z sM ?_
 have gp:AE w w:=AE.refl w
 have hl_vtx:=htoT.lenL
 unfold maxLen at hl_vtx
 have f1:=hA.lenL
 unfold maxLen at f1
 have hS:∀b∈([]:List Nat),b<w.heap.size:=fun b hb=>by cases hb
 refine Z1 [3,3,0,0] Z (Bx (cs:=#[zI ipT,vtc,vtg,vtx]) Z Aa fun w1 dx im dt=>?_)
 have dy:=dx.size
 have gq:=gp.trans dx
 replace dt:BX w1.heap w.heap.size [zI ipT,vtc,vtg,vtx]:=dt
 have jr:=dt.lt
 refine UI (u:=zI ord) Z Z Aa fun w2 du io dv=>?_
 have dz:=du.size
 have gr:=gq.trans du
 have bg:=dt.ext du
 replace dv:BX w2.heap w1.heap.size [zI ord]:=dv
 refine Ac 2 Z<|Z1 [3,0] Z ?_
 obtain⟨BO,hBO⟩:∃b:Nat,b=w2.heap.size:=⟨_,rfl⟩
 have hwB:w.heap.size≤BO:=by omega
 have js:w.heap.size<BO:=by have:=BX.lt bg;omega
 have jt:w1.heap.size<BO:=by have:=BX.lt dv;omega
 refine CH rV BB Bo Bs Aa fun v4 w4 ch ip e0=>?_
 have e1:=ch.size
 have gs:=gr.trans ch
 have ci:=bg.ext ch
 have cj:=dv.ext ch
 obtain⟨ju,F4,jv⟩:=Gb.nil (S:=[]) (by rw[← hBO]at e0;exact e0)
 refine Ac 1 Z<|Z1 [0,0] Z<|KJ [] [zP w1.heap.size] Z Z Aa<|Ac 1 Z<|A0<|Z1 [0,2,0,0] Z<|Ak (p:=zP w.heap.size) 1 BZ Z Z Aa<|Ah (p:=Ao (zP w.heap.size) 1) (.inr Z) vtc D8 Z (ci.ldp (i:=1) sM) Aa<|AP (v:=vtc) Id Z htcT.isSl Aa<|Ac 1 Z<|A3 ?_
 refine AV (S:=Nat×Value) (fun⟨k,vo⟩=>([(8,vo),(18,zI (k:Int)),(1,va),(9,.func (.func 178) #[] #[zP w1.heap.size]),(16,vtc),(17,zI (T.code.length:Int))])) (fun⟨k,vo⟩ W=>AE w W∧BX W.heap w1.heap.size [zI ord]∧k≤T.code.length∧w.heap.size≤BO∧BO≤W.heap.size∧OG 27 [] BO W.heap vo (Bz (ord.toNat+1) A<|T.code.take k)∧IA (ord.toNat+1) A T.code k∧CB (ord.toNat+1) (Bz (ord.toNat+1) A<|T.code.take k)) (fun⟨k,vo⟩=>T.code.length-k) (0,v4) ⟨rfl,rfl,rfl,rfl,rfl,rfl,trivial⟩ ⟨gs,cj,oM,oM,oM,(by exact⟨_,_,by assumption⟩),UJ,(by intro j hj;simp at hj)⟩ ?_
 clear gp im dx dy gq io du dz gr e0 ip ch e1 gs
 rintro⟨k,vo⟩ ρ7 w7 ⟨dw,au,gt,gu,gv,hbld,hzk,hR⟩
 have iq:w.heap.size≤w7.heap.size:=dw.size
 have hRl:(Bz (ord.toNat+1) A (T.code.take k)).length=k:=by rw[BD,List.length_take];omega
 have jw:=au.lt
 obtain⟨jx,F9,av⟩:=hbld
 have hFl:∀b∈F9,b<w7.heap.size:=av.lt
 refine Z1 [0] Z ?_
 by_cases ck:(k:Int)<(T.code.length:Int)
 ·refine AC true Z Z (A5 ck) Aa<|Aj<|A0<|Af Z<|A2<|A0<|A3<|Z1 [0,2,3,4] Z ?_
  have hkl:k<T.code.length:=by omega
  refine Az (v:=vtc) k Id DN Z Z htcT.isSl Z sD Aa ?_
  obtain⟨cs11,e2,e3⟩:=htcT.get AL Aw.zero (k:=k) sD
  obtain⟨rfl,e4⟩:=Ep e2
  refine AO (p:=Ay vtc k 4) (.inr Z) [zI<|(T.code.getD k Aw.zero).op,zI<|(T.code.getD k Aw.zero).a,zI<|(T.code.getD k Aw.zero).b,zI<|(T.code.getD k Aw.zero).num] DM Z (fun fg ir=>e3 fg<|At.of_ext []<|dw.trans ir) Z Aa ?_
  have is:=au.lt
  refine Bj (z:=.agg #[zI 0,zI 0,zI 0,zI 0]) QV Aa fun f8 ai it bn=>?_
  have gw:=ai.size
  have cl:=dw.trans ai
  have aw:=au.ext ai
  have iu:=av.ext ai
  replace bn:BX f8.heap w7.heap.size [zI 0,zI 0,zI 0,zI 0]:=bn
  refine Bw (vs:=[zI<|(T.code.getD k Aw.zero).op,zI<|(T.code.getD k Aw.zero).a,zI<|(T.code.getD k Aw.zero).b,zI<|(T.code.getD k Aw.zero).num]) DM Z Z (by intro u hu;simp only[ze,z2,or_false]at hu;rcases hu with rfl|rfl|rfl|rfl <;> first|exact⟨rfl,rfl⟩) bn Z Z Aa fun f2 ay iv az=>?_
  replace az:BX f2.heap w7.heap.size [zI ((T.code.getD k Aw.zero).op),zI ((T.code.getD k Aw.zero).a),zI ((T.code.getD k Aw.zero).b),zI ((T.code.getD k Aw.zero).num)]:=az
  have e5:AE w f2:=ay.below cl (fun _ h=>zE h) cl.size
  have gx:f8.heap.size≤f2.heap.size:=ay.size
  have cm:=aw.chg ay (zB ·)
  have e6:=av.ext<|ay.below ai (fun _ h=>zE h) ai.size
  refine Aj<|Z1 [0,0,2,3,0] Z<|Ad 1 Z<|Ak (p:=zP w7.heap.size) 3 D1 Z Z Aa<|Ah (p:=Ao (zP w7.heap.size) 3) (.inr Z) (zI<|(T.code.getD k Aw.zero).num) AB Z (az.ldp (i:=3) sM) Aa<|Au 178 [] [zP w1.heap.size] [zI<|(T.code.getD k Aw.zero).num,zP w1.heap.size] Z Z Xp Aa (EK _ _ (w1.heap.size) (ord) e4.2.2.2 (cm.ld (k:=0) sM) _hord oM) ?_
  rintro k1 f0 ⟨bh,rfl,aj,ad⟩
  refine⟨_,rfl,aj,?_⟩
  have gy:=aj.size
  have a8:=e5.trans aj
  have a2:=cm.ext aj
  have a0:=az.ext aj
  have a1:=e6.ext aj
  refine Ac 1 Z<|A0<|Z1 [0,2] Z<|Ak (p:=zP w7.heap.size) 0 Fd Z Z Aa<|Ah (p:=Ao (zP w7.heap.size) 0) (.inr Z) (zI<|(T.code.getD k Aw.zero).op) AB Z (a0.ldp (i:=0) sM) Aa<|Aj<|A3<|Z1 [0,0] Z ?_
  by_cases cn:(T.code.getD k Aw.zero).op=((1:Nat):Int)
  ·refine Al true Z Z (A5 cn) Aa<|Ac 1 Z<|Af Z<|Ab _ [0,0,2,0,2,0] Z ?_
   have hio:=(hform k hkl).i1 oM
   refine Ad 1 Z<|Ak (p:=zP w7.heap.size) 3 D1 Z Z Aa<|Ah (p:=Ao (zP w7.heap.size) 3) (.inr Z) (zI<|(T.code.getD k Aw.zero).num) AB Z (a0.ldp (i:=3) sM) Aa<|Az (v:=va) (((T.code.getD k Aw.zero).num).toNat) Bo Bs Z Z hA.slL oM sD Aa ?_
   obtain⟨bo,e7,bp⟩:=RN.getL (w:=w) g1 [] (k:=((T.code.getD k Aw.zero).num).toNat) hA sD
   have co:=bp.lenL
   unfold maxLen at co
   refine Ah (p:=Ay va (((T.code.getD k Aw.zero).num).toNat) 1) (.inr Z) bo BA Z (e7 _<|At.of_ext [] a8) Aa<|Ac 1 Z<|Ab _ [0,0,3,4,0] Z<|Ad 2 Z (BI (u:=bo) (B:=f0.heap.size) BB Bo Bs Z Z (Nu f0.heap.size f0.heap.size _<|bp.one1 g1) (A7 _) Aa fun fh fi b0 iw e8=>?_)
   have gz:=b0.size
   have bq:=a8.trans b0
   have b1:=a2.ext b0
   have b2:=a1.ext b0
   refine DY (v:=vo) (a:=fh) (u:=bo) Bo Bs Z Z Z b2 oM e8 (RN.stp g1 bp (At.of_ext [] bq) fun b hb=>.inr (zH<|b2.low b (by simpa using hb))) sD Hc Aa ?_
   rintro fj f9 G24 br cp ⟨ix,k2,iy⟩
   have i0:fi.heap.size≤f9.heap.size:=br.size
   have e9:AE w f9:=br.below bq (fun c hc=>A8 hwB (b2.low c (cp c hc))) bq.size
   have ea:=b1.chg br fun hm=>zH<|b2.low _ (cp _ hm)
   refine Ac 1 Z<|Ab _ [0,0] Z<|AM ((k+1:Nat):Int) Z Z (Ba oM sD) Aa<|Ac 1 Z ?_
   exact⟨(k+1,fj),_,rfl,zR,⟨e9,ea,oM,oM,oM,Hb,Hd,He⟩,zD⟩
  refine Al false Z Z (A6 cn) Aa<|Ac 1 Z<|Ai Z<|Z1 [0,0] Z ?_
  by_cases cq:(T.code.getD k Aw.zero).op=((3:Nat):Int)
  ·refine Al true Z Z (A5 cq) Aa<|Ac 1 Z<|Af Z<|AW _ [0,0,1,0,1,0,0,1,0,1,3,0] mixed (by kernel_rfl) ?_
   have hio:=(hform k hkl).i2 oM
   have hra:=hR (T.code.getD k Aw.zero).a.toNat oM
   have hrb:=hR (T.code.getD k Aw.zero).b.toNat oM
   have b3:=hra.1
   have bs:=hrb.1
   refine Ad 1 Z<|Ak (p:=zP w7.heap.size) 1 C4 Z Z Aa<|Ah (p:=Ao (zP w7.heap.size) 1) (.inl Z) (zI<|(T.code.getD k Aw.zero).a) AB Z (a0.ldp (i:=1) sM) Aa<|Az (v:=vo) (((T.code.getD k Aw.zero).a).toNat) Bo Bs Z Z (a1.done fun b hb=>absurd hb z2).slL oM sD Aa ?_
   obtain⟨cr,eb,bt⟩:=RN.getL (w:=f0) g1 [] (k:=((T.code.getD k Aw.zero).a).toNat) (a1.done (fun b hb=>absurd hb z2)) sD
   have ct:=bt.lenL
   unfold maxLen at ct
   refine Ah (p:=Ay vo (((T.code.getD k Aw.zero).a).toNat) 1) (.inl Z) cr BA Z (eb _ (At.refl _ _).drew) Aa<|Ad 1 Z<|Ak (p:=zP w7.heap.size) 2 C5 Z Z Aa<|Ah (p:=Ao (zP w7.heap.size) 2) (.inl Z) (zI<|(T.code.getD k Aw.zero).b) AB Z (a0.ldp (i:=2) sM) Aa ?_
   refine Az (v:=vo) (((T.code.getD k Aw.zero).b).toNat) Bo Bs Z Z (a1.done fun b hb=>absurd hb z2).slL oM sD Aa ?_
   obtain⟨cu,ec,bu⟩:=RN.getL (w:=f0) g1 [] (k:=((T.code.getD k Aw.zero).b).toNat) (a1.done (fun b hb=>absurd hb z2)) sD
   have cv:=bu.lenL
   unfold maxLen at cv
   refine Ah (p:=Ay vo (((T.code.getD k Aw.zero).b).toNat) 1) (.inl Z) cu BA Z (ec _ (At.refl _ _).drew) Aa<|Au 129 [] [] [cr,cu] Z Z Ok Aa (DT _ _ _ _ _ (bt).rd (bu).rd oM oM hra.2 hrb.2) ?_
   rintro k3 f3 ⟨bi,rfl,a9,a3⟩
   refine⟨_,rfl,a9,?_⟩
   replace a9:=a9.of_drew
   have i3:=a9.size
   have ed:=a8.trans a9
   have b4:=a2.ext a9
   have ee:=a1.ext a9
   have ef:=bt.ext g1 a9
   have eg:=bu.ext g1 a9
   replace a3:=a3.low (B':=f0.heap.size)<|A7 _
   refine Ac 1 Z<|Ab _ [0,0,3,4,0] Z<|Ad 2 Z (BI (u:=bi) (B:=f3.heap.size) BB Bo Bs Z Z (Nu f3.heap.size f3.heap.size _<|⟨(BS a3.isSl).1,(BS a3.isSl).2⟩) (A7 _) Aa fun fk fl ae iz eh=>?_)
   have i4:=ae.size
   have cw:=ed.trans ae
   have b5:=b4.ext ae
   have ak:=a3.ext (o1) ae
   have bv:=ee.ext ae
   have j0:=ef.ext g1 ae
   have j1:=eg.ext g1 ae
   refine DY (v:=vo) (a:=fk) (u:=bi) Bo Bs Z Z Z bv oM eh (RN.of_fr1 ak fun b hb=>zH<|hFl b (by simpa using hb)) sD Hc Aa ?_
   rintro fm fa G37 bw cx ⟨j2,k4,j3⟩
   have i5:fl.heap.size≤fa.heap.size:=bw.size
   have ei:AE w fa:=bw.below cw (fun c hc=>A8 hwB (bv.low c (cx c hc))) cw.size
   have ej:=b5.chg bw fun hm=>zH<|bv.low _ (cx _ hm)
   refine Ac 1 Z<|Ab _ [0,0] Z<|AM ((k+1:Nat):Int) Z Z (Ba oM sD) Aa<|Ac 1 Z ?_
   exact⟨(k+1,fm),_,rfl,zR,⟨ei,ej,oM,oM,oM,Hb,Hd,He⟩,zD⟩
  refine Al false Z Z (A6 cq) Aa<|Ac 1 Z<|Ai Z<|Z1 [0,0] Z ?_
  by_cases cy:(T.code.getD k Aw.zero).op=((4:Nat):Int)
  ·refine Al true Z Z (A5 cy) Aa<|Ac 1 Z<|Af Z<|AW _ [0,0,1,0,1,0,0,1,0,1,3,0] mixed (by kernel_rfl) ?_
   have hio:=(hform k hkl).i2 oM
   have hra:=hR (T.code.getD k Aw.zero).a.toNat oM
   have hrb:=hR (T.code.getD k Aw.zero).b.toNat oM
   have b3:=hra.1
   have bs:=hrb.1
   refine Ad 1 Z<|Ak (p:=zP w7.heap.size) 1 C4 Z Z Aa<|Ah (p:=Ao (zP w7.heap.size) 1) (.inl Z) (zI<|(T.code.getD k Aw.zero).a) AB Z (a0.ldp (i:=1) sM) Aa<|Az (v:=vo) (((T.code.getD k Aw.zero).a).toNat) Bo Bs Z Z (a1.done fun b hb=>absurd hb z2).slL oM sD Aa ?_
   obtain⟨cz,ek,bx⟩:=RN.getL (w:=f0) g1 [] (k:=((T.code.getD k Aw.zero).a).toNat) (a1.done (fun b hb=>absurd hb z2)) sD
   have d0:=bx.lenL
   unfold maxLen at d0
   refine Ah (p:=Ay vo (((T.code.getD k Aw.zero).a).toNat) 1) (.inl Z) cz BA Z (ek _ (At.refl _ _).drew) Aa<|Ad 1 Z<|Ak (p:=zP w7.heap.size) 2 C5 Z Z Aa<|Ah (p:=Ao (zP w7.heap.size) 2) (.inl Z) (zI<|(T.code.getD k Aw.zero).b) AB Z (a0.ldp (i:=2) sM) Aa ?_
   refine Az (v:=vo) (((T.code.getD k Aw.zero).b).toNat) Bo Bs Z Z (a1.done fun b hb=>absurd hb z2).slL oM sD Aa ?_
   obtain⟨d1,el,bz⟩:=RN.getL (w:=f0) g1 [] (k:=((T.code.getD k Aw.zero).b).toNat) (a1.done (fun b hb=>absurd hb z2)) sD
   have d2:=bz.lenL
   unfold maxLen at d2
   refine Ah (p:=Ay vo (((T.code.getD k Aw.zero).b).toNat) 1) (.inl Z) d1 BA Z (el _ (At.refl _ _).drew) Aa<|Au 179 [] [] [cz,d1] Z Z Xq Aa (Jv _ _ _ _ _ (bx).rd (bz).rd oM oM oM hra.2 hrb.2) ?_
   rintro k5 f4 ⟨bj,rfl,aa,a4⟩
   refine⟨_,rfl,aa,?_⟩
   replace aa:=aa.of_drew
   have i6:=aa.size
   have em:=a8.trans aa
   have b6:=a2.ext aa
   have en:=a1.ext aa
   have eo:=bx.ext g1 aa
   have ep:=bz.ext g1 aa
   replace a4:=a4.low (B':=f0.heap.size)<|A7 _
   refine Ac 1 Z<|Ab _ [0,0,3,4,0] Z<|Ad 2 Z (BI (u:=bj) (B:=f4.heap.size) BB Bo Bs Z Z (Nu f4.heap.size f4.heap.size _<|⟨(BS a4.isSl).1,(BS a4.isSl).2⟩) (A7 _) Aa fun fo fp af j4 eq=>?_)
   have i8:=af.size
   have d3:=em.trans af
   have b7:=b6.ext af
   have al:=a4.ext (o1) af
   have c0:=en.ext af
   have j5:=eo.ext g1 af
   have j6:=ep.ext g1 af
   refine DY (v:=vo) (a:=fo) (u:=bj) Bo Bs Z Z Z c0 oM eq (RN.of_fr1 al fun b hb=>zH<|hFl b (by simpa using hb)) sD Hc Aa ?_
   rintro fq fb G50 c2 d4 ⟨j7,k6,j8⟩
   have i9:fp.heap.size≤fb.heap.size:=c2.size
   have er:AE w fb:=c2.below d3 (fun c hc=>A8 hwB (c0.low c (d4 c hc))) d3.size
   have es:=b7.chg c2 fun hm=>zH<|c0.low _ (d4 _ hm)
   refine Ac 1 Z<|Ab _ [0,0] Z<|AM ((k+1:Nat):Int) Z Z (Ba oM sD) Aa<|Ac 1 Z ?_
   exact⟨(k+1,fq),_,rfl,zR,⟨er,es,oM,oM,oM,Hb,Hd,He⟩,zD⟩
  refine Al false Z Z (A6 cy) Aa<|Ac 1 Z<|Ai Z<|Z1 [0,0] Z ?_
  by_cases d5:(T.code.getD k Aw.zero).op=((5:Nat):Int)
  ·refine Al true Z Z (A5 d5) Aa<|Ac 1 Z<|Af Z<|AW _ [0,0,1,0,1,0,0,1,0,1,3,0] mixed (by kernel_rfl) ?_
   have hio:=(hform k hkl).i2 oM
   have hra:=hR (T.code.getD k Aw.zero).a.toNat oM
   have hrb:=hR (T.code.getD k Aw.zero).b.toNat oM
   have b3:=hra.1
   have bs:=hrb.1
   refine Ad 1 Z<|Ak (p:=zP w7.heap.size) 1 C4 Z Z Aa<|Ah (p:=Ao (zP w7.heap.size) 1) (.inl Z) (zI<|(T.code.getD k Aw.zero).a) AB Z (a0.ldp (i:=1) sM) Aa<|Az (v:=vo) (((T.code.getD k Aw.zero).a).toNat) Bo Bs Z Z (a1.done fun b hb=>absurd hb z2).slL oM sD Aa ?_
   obtain⟨d6,et,c3⟩:=RN.getL (w:=f0) g1 [] (k:=((T.code.getD k Aw.zero).a).toNat) (a1.done (fun b hb=>absurd hb z2)) sD
   have d7:=c3.lenL
   unfold maxLen at d7
   refine Ah (p:=Ay vo (((T.code.getD k Aw.zero).a).toNat) 1) (.inl Z) d6 BA Z (et _ (At.refl _ _).drew) Aa<|Ad 1 Z<|Ak (p:=zP w7.heap.size) 2 C5 Z Z Aa<|Ah (p:=Ao (zP w7.heap.size) 2) (.inl Z) (zI<|(T.code.getD k Aw.zero).b) AB Z (a0.ldp (i:=2) sM) Aa ?_
   refine Az (v:=vo) (((T.code.getD k Aw.zero).b).toNat) Bo Bs Z Z (a1.done fun b hb=>absurd hb z2).slL oM sD Aa ?_
   obtain⟨d8,eu,c4⟩:=RN.getL (w:=f0) g1 [] (k:=((T.code.getD k Aw.zero).b).toNat) (a1.done (fun b hb=>absurd hb z2)) sD
   have d9:=c4.lenL
   unfold maxLen at d9
   refine Ah (p:=Ay vo (((T.code.getD k Aw.zero).b).toNat) 1) (.inl Z) d8 BA Z (eu _ (At.refl _ _).drew) Aa<|Au 180 [] [] [d6,d8] Z Z Om Aa (Dg _ _ _ _ _ (c3).rd (c4).rd oM oM hra.2 hrb.2) ?_
   rintro k7 f5 ⟨bk,rfl,ab,a5⟩
   refine⟨_,rfl,ab,?_⟩
   replace ab:=ab.of_drew
   have ia:=ab.size
   have ev:=a8.trans ab
   have b8:=a2.ext ab
   have ew:=a1.ext ab
   have ex:=c3.ext g1 ab
   have ey:=c4.ext g1 ab
   replace a5:=a5.low (B':=f0.heap.size)<|A7 _
   refine Ac 1 Z<|Ab _ [0,0,3,4,0] Z<|Ad 2 Z (BI (u:=bk) (B:=f5.heap.size) BB Bo Bs Z Z (Nu f5.heap.size f5.heap.size _<|⟨(BS a5.isSl).1,(BS a5.isSl).2⟩) (A7 _) Aa fun fr fs ag j9 ez=>?_)
   have ib:=ag.size
   have da:=ev.trans ag
   have b9:=b8.ext ag
   have am:=a5.ext (o1) ag
   have c5:=ew.ext ag
   have ja:=ex.ext g1 ag
   have jb:=ey.ext g1 ag
   refine DY (v:=vo) (a:=fr) (u:=bk) Bo Bs Z Z Z c5 oM ez (RN.of_fr1 am fun b hb=>zH<|hFl b (by simpa using hb)) sD Hc Aa ?_
   rintro ft fc G63 c6 db ⟨jc,k8,jd⟩
   have ic:fs.heap.size≤fc.heap.size:=c6.size
   have g0:AE w fc:=c6.below da (fun c hc=>A8 hwB (c5.low c (db c hc))) da.size
   have g2:=b9.chg c6 fun hm=>zH<|c5.low _ (db _ hm)
   refine Ac 1 Z<|Ab _ [0,0] Z<|AM ((k+1:Nat):Int) Z Z (Ba oM sD) Aa<|Ac 1 Z ?_
   exact⟨(k+1,ft),_,rfl,zR,⟨g0,g2,oM,oM,oM,Hb,Hd,He⟩,zD⟩
  refine Al false Z Z (A6 d5) Aa<|Ac 1 Z<|Ai Z<|Z1 [0,0] Z ?_
  by_cases dc:(T.code.getD k Aw.zero).op=((7:Nat):Int)
  ·refine Al true Z Z (A5 dc) Aa<|Ac 1 Z<|Af Z<|Ab _ [0,0,2,0,2,3,0] Z ?_
   have hio:=(hform k hkl).i7 oM
   have hra:=hR (T.code.getD k Aw.zero).a.toNat oM
   have b3:=hra.1
   refine Ad 1 Z<|Ak (p:=zP w7.heap.size) 1 C4 Z Z Aa<|Ah (p:=Ao (zP w7.heap.size) 1) (.inr Z) (zI<|(T.code.getD k Aw.zero).a) AB Z (a0.ldp (i:=1) sM) Aa<|Az (v:=vo) (((T.code.getD k Aw.zero).a).toNat) Bo Bs Z Z (a1.done fun b hb=>absurd hb z2).slL oM sD Aa ?_
   obtain⟨dd,g3,c7⟩:=RN.getL (w:=f0) g1 [] (k:=((T.code.getD k Aw.zero).a).toNat) (a1.done (fun b hb=>absurd hb z2)) sD
   have de:=c7.lenL
   unfold maxLen at de
   refine Ah (p:=Ay vo (((T.code.getD k Aw.zero).a).toNat) 1) (.inr Z) dd BA Z (g3 _<|At.refl _ _) Aa<|Au 181 [] [] [dd,zI ((1000002:Nat):Int)] Z Z Mm Aa (CT _ _ _ _ (c7).rd oM oM hra.2 oM) ?_
   rintro k9 f6 ⟨bl,rfl,an,ah⟩
   refine⟨_,rfl,an,?_⟩
   have id:=an.size
   have g4:=a8.trans an
   have ba:=a2.ext an
   have g5:=a1.ext an
   have g6:=c7.ext g1 an
   refine Ac 1 Z<|Ab _ [0,0,3,4,0] Z<|Ad 2 Z (BI (u:=bl) (B:=f6.heap.size) BB Bo Bs Z Z (Nu f6.heap.size f6.heap.size _<|⟨(BS ah.isSl).1,(BS ah.isSl).2⟩) (A7 _) Aa fun fu fv ao je g7=>?_)
   have ie:=ao.size
   have df:=g4.trans ao
   have bb:=ba.ext ao
   have ap:=ah.ext (o1) ao
   have c8:=g5.ext ao
   have jf:=g6.ext g1 ao
   refine DY (v:=vo) (a:=fu) (u:=bl) Bo Bs Z Z Z c8 oM g7 (RN.of_fr1 ap fun b hb=>zH<|hFl b (by simpa using hb)) sD Hc Aa ?_
   rintro fw fd G73 c9 dg ⟨jg,ka,jh⟩
   have ig:fv.heap.size≤fd.heap.size:=c9.size
   have g8:AE w fd:=c9.below df (fun c hc=>A8 hwB (c8.low c (dg c hc))) df.size
   have g9:=bb.chg c9 fun hm=>zH<|c8.low _ (dg _ hm)
   refine Ac 1 Z<|Ab _ [0,0] Z<|AM ((k+1:Nat):Int) Z Z (Ba oM sD) Aa<|Ac 1 Z ?_
   exact⟨(k+1,fw),_,rfl,zR,⟨g8,g9,oM,oM,oM,Hb,Hd,He⟩,zD⟩
  refine Al false Z Z (A6 dc) Aa<|Ac 1 Z<|Ai Z<|Z1 [0,0] Z ?_
  by_cases dh:(T.code.getD k Aw.zero).op=((6:Nat):Int)
  ·refine Al true Z Z (A5 dh) Aa<|Ac 1 Z<|Af Z<|A0<|Z1 [0,0,2,0,2,0,2,0] Z ?_
   have hio:=(hform k hkl).i2 oM
   have hra:=hR (T.code.getD k Aw.zero).a.toNat oM
   have hrb:=hR (T.code.getD k Aw.zero).b.toNat oM
   have b3:=hra.1
   have bs:=hrb.1
   refine Ad 1 Z<|Ak (p:=zP w7.heap.size) 2 C5 Z Z Aa<|Ah (p:=Ao (zP w7.heap.size) 2) (.inr Z) (zI<|(T.code.getD k Aw.zero).b) AB Z (a0.ldp (i:=2) sM) Aa<|Az (v:=vo) (((T.code.getD k Aw.zero).b).toNat) Bo Bs Z Z (a1.done fun b hb=>absurd hb z2).slL oM sD Aa ?_
   obtain⟨ca,ga,bc⟩:=RN.getL (w:=f0) g1 [] (k:=((T.code.getD k Aw.zero).b).toNat) (a1.done (fun b hb=>absurd hb z2)) sD
   have di:=bc.lenL
   unfold maxLen at di
   refine Ah (p:=Ay vo (((T.code.getD k Aw.zero).b).toNat) 1) (.inr Z) ca BA Z (ga _<|At.refl _ _) Aa<|Az (v:=ca) 0 Bm BC Z Z bc.slL Z sD Aa ?_
   have gb:=RN.getI (w:=f0) (k:=0) bc sD
   refine Ah (p:=Ay ca 0 1) (.inr Z) (zI<|((Bz (ord.toNat+1) A<|T.code.take k).getD (((T.code.getD k Aw.zero).b).toNat) []).getD 0 0) AB Z (gb.1 _<|At.refl _ _) Aa ?_
   by_cases dj:((Bz (ord.toNat+1) A (T.code.take k)).getD (((T.code.getD k Aw.zero).b).toNat) []).getD 0 0=((0:Nat):Int)
   ·exact Al true Z Z (A5 dj) Aa<|Aj<|Af Z<|Z1 [0,0] Z<|Ac 2 Z<|A1<|Am<|AF<|Am<|AF<|Am<|Am<|AF<|Am<|Ag [6,7] Z (.tuple #[zN,zI ((6:Nat):Int)]) Z ⟨_,_,rfl,a8,.inr ⟨rfl,Qv oM oM oM⟩,(fun h9=>absurd h9 oM)⟩
   refine Al false Z Z (A6 dj) Aa<|Aj<|Ai Z<|A2<|AW _ [0,0,1,0,1,0,0,1,0,1,3,0] mixed (by kernel_rfl)<|Ad 1 Z<|Ak (p:=zP w7.heap.size) 1 C4 Z Z Aa<|Ah (p:=Ao (zP w7.heap.size) 1) (.inl Z) (zI<|(T.code.getD k Aw.zero).a) AB Z (a0.ldp (i:=1) sM) Aa ?_
   refine Az (v:=vo) (((T.code.getD k Aw.zero).a).toNat) Bo Bs Z Z (a1.done fun b hb=>absurd hb z2).slL oM sD Aa ?_
   obtain⟨dk,gc,cb⟩:=RN.getL (w:=f0) g1 [] (k:=((T.code.getD k Aw.zero).a).toNat) (a1.done (fun b hb=>absurd hb z2)) sD
   have dl:=cb.lenL
   unfold maxLen at dl
   refine Ah (p:=Ay vo (((T.code.getD k Aw.zero).a).toNat) 1) (.inl Z) dk BA Z (gc _ (At.refl _ _).drew) Aa<|Ad 1 Z<|Ak (p:=zP w7.heap.size) 2 C5 Z Z Aa<|Ah (p:=Ao (zP w7.heap.size) 2) (.inl Z) (zI<|(T.code.getD k Aw.zero).b) AB Z (a0.ldp (i:=2) sM) Aa ?_
   refine Az (v:=vo) (((T.code.getD k Aw.zero).b).toNat) Bo Bs Z Z (a1.done fun b hb=>absurd hb z2).slL oM sD Aa ?_
   obtain⟨dm,gd,cc⟩:=RN.getL (w:=f0) g1 [] (k:=((T.code.getD k Aw.zero).b).toNat) (a1.done (fun b hb=>absurd hb z2)) sD
   have dn:=cc.lenL
   unfold maxLen at dn
   refine Ah (p:=Ay vo (((T.code.getD k Aw.zero).b).toNat) 1) (.inl Z) dm BA Z (gd _ (At.refl _ _).drew) Aa<|Au 182 [] [] [dk,dm] Z Z TC Aa (Ft _ _ _ _ _ (cb).rd (cc).rd oM oM oM hra.2 hrb.2) ?_
   rintro kb f7 ⟨bm,rfl,a7,a6⟩
   refine⟨_,rfl,a7,?_⟩
   replace a7:=a7.of_drew
   have ih:=a7.size
   have ge:=a8.trans a7
   have bd:=a2.ext a7
   have gf:=a1.ext a7
   have gg:=bc.ext g1 a7
   have gh:=cb.ext g1 a7
   have gi:=cc.ext g1 a7
   replace a6:=a6.low (B':=f0.heap.size)<|A7 _
   refine Ac 1 Z<|Ab _ [0,0,3,4,0] Z<|Ad 2 Z (BI (u:=bm) (B:=f7.heap.size) BB Bo Bs Z Z (Nu f7.heap.size f7.heap.size _<|⟨(BS a6.isSl).1,(BS a6.isSl).2⟩) (A7 _) Aa fun fx fy ac ji gj=>?_)
   have ii:=ac.size
   have dp:=ge.trans ac
   have be:=bd.ext ac
   have aq:=a6.ext (o1) ac
   have cd:=gf.ext ac
   have jj:=gg.ext g1 ac
   have jk:=gh.ext g1 ac
   have jl:=gi.ext g1 ac
   refine DY (v:=vo) (a:=fx) (u:=bm) Bo Bs Z Z Z cd oM gj (RN.of_fr1 aq fun b hb=>zH<|hFl b (by simpa using hb)) sD Hc Aa ?_
   rintro fz fe G91 ce dq ⟨jm,kc,jn⟩
   have ij:fy.heap.size≤fe.heap.size:=ce.size
   have gk:AE w fe:=ce.below dp (fun c hc=>A8 hwB (cd.low c (dq c hc))) dp.size
   have gl:=be.chg ce fun hm=>zH<|cd.low _ (dq _ hm)
   refine Ac 1 Z<|Ab _ [0,0] Z<|AM ((k+1:Nat):Int) Z Z (Ba oM sD) Aa<|Ac 1 Z ?_
   exact⟨(k+1,fz),_,rfl,zR,⟨gk,gl,oM,oM,oM,Hb,Hd,He⟩,zD⟩
  refine Al false Z Z (A6 dh) Aa<|Ac 1 Z<|Ai Z<|A2<|Ab _ [0,0,3,4,0] Z<|Ad 2 Z (BI (u:=bh) (B:=f0.heap.size) BB Bo Bs Z Z (Nu f0.heap.size f0.heap.size _<|⟨(BS ad.isSl).1,(BS ad.isSl).2⟩) (A7 _) Aa fun jy jz ax jo gm=>?_)
  have ik:=ax.size
  have dr:=a8.trans ax
  have bf:=a2.ext ax
  have ar:=ad.ext (o1) ax
  have cf:=a1.ext ax
  refine DY (v:=vo) (a:=jy) (u:=bh) Bo Bs Z Z Z cf oM gm (RN.of_fr1 ar fun b hb=>zH<|hFl b (by simpa using hb)) sD Hc Aa ?_
  rintro k0 ff G95 cg ds ⟨jp,kd,jq⟩
  have il:jz.heap.size≤ff.heap.size:=cg.size
  have gn:AE w ff:=cg.below dr (fun c hc=>A8 hwB (cf.low c (ds c hc))) dr.size
  have go:=bf.chg cg fun hm=>zH<|cf.low _ (ds _ hm)
  refine Ac 1 Z<|Ab _ [0,0] Z<|AM ((k+1:Nat):Int) Z Z (Ba oM sD) Aa<|Ac 1 Z ?_
  exact⟨(k+1,k0),_,rfl,zR,⟨gn,go,oM,oM,oM,Hb,Hd,He⟩,zD⟩
 exact AC false Z Z (A6 ck) Aa<|Aj<|A0<|Ai Z<|A4<|Av<|Av<|Aq<|Z1 [0,0,0] Z<|Ac 3 Z<|A1<|Ag [6,7] Z (.tuple #[vo,zI ((0:Nat):Int)]) Z ⟨_,_,rfl,dw,.inl ⟨rfl,(by have h9:=hzk;rwa [show k=T.code.length from by omega]at h9)⟩,(fun _=>⟨(by have h9:=av.done (fun b hb=>absurd hb z2);rwa [za oM]at h9),av.cap⟩)⟩
theorem Bd (w:World)(r:Int)(vs:Value)(s:Sr)(S:List Nat)(vo:Nat)(vov:Value)(xs:List (Sr))(usxs:List Value)(Fxs:List Nat)(BO:Nat)(_hr:Bn r)(hs:Rd (B4 rI) w.heap vs s)(hcxs:Fx w.heap (zP vo)=some vov)(hbxs:Gb 27 S BO w.heap vov xs usxs Fxs)(hSB:∀b∈S,b<BO)(a9:∀b∈S,b<w.heap.size)(hr:0≤r∧r<(xs.length:Int))(hxl:(xs.getD r.toNat []).length≤s.length∧s.length≤13)(hxn:B9 (xs.getD r.toNat [])=true)(hsn:B9 s=true) :
  Calls Tryz.prog 183 #[zI r,vs,zP vo] w (fun e w'=>e=.returned (.tuple #[])∧At Fxs w w'∧∃us',Gb 27 S BO w'.heap vov (DI xs r s) us' Fxs):=by
 refine Ap [zI r,vs,zP vo] 14 Tryz.func183 Z Z sM ?_
 have a2:AE w w:=AE.refl w
 have ad:=hs.lenle
 have hFl:∀b∈Fxs,b<w.heap.size:=hbxs.lt
 refine AW _ [1,0,1,0,0,1,0,3,0,4] mixed (by kernel_rfl)<|Ah (.inl Z) vov GZ Z (Bb a2.drew hcxs) Aa<|Ad 1 Z<|Ah (.inl Z) vov GZ Z (Bb a2.drew hcxs) Aa<|Ad 1 Z<|Az (v:=vov) ((r).toNat) Bo Bs Z Z (hbxs.done hSB).none.slL oM sD Aa ?_
 obtain⟨a7,aa,a4⟩:=hbxs.getF (k:=(r).toNat) sD
 have a5:=a4.lenL
 unfold maxLen at a5
 refine Ah (p:=Ay vov ((r).toNat) 1) (.inl Z) a7 BA Z aa Aa<|Ad 1 Z<|Au 129 [] [] [a7,vs] Z Z Ok Aa (DT _ _ _ _ _ a4.rd (hs.ext g1 a2.drew) oM oM hxn hsn) ?_
 rintro e2 w2 ⟨a6,rfl,a1,a0⟩
 refine⟨_,rfl,a1,?_⟩
 replace a1:=a1.of_drew
 have ab:=a1.size
 have ac:=a2.trans a1
 have a8:=hbxs.ext a1
 replace a0:=a0.low (B':=w.heap.size)<|A7 _
 refine Az (v:=vov) ((r).toNat) Bo Bs Z Z (a8.done hSB).none.slL oM sD Aa ?_
 refine Qz (v:=vov) (u:=a6) (w:=w2) P3 Z Z a8 (RN.of_fr1 a0 fun b hb=>by rcases zi.1 hb with hb|hb;(have:=a9 b hb;omega);(have:=hFl b hb;omega)) sD Aa fun w5 a3 ah ae=>?_
 have af:w2.heap.size≤w5.heap.size:=a3.size
 have ag:At Fxs w w5:=(At.of_ext _ ac).trans a3
 exact Aj<|P9 [] Z (.tuple #[]) Z ⟨rfl,ag,_,ae⟩
theorem Ii {p:Prop}(h:p:=by first|(rw[show(kk-1+1).toNat=kk.toNat from by omega];exact EF hadj oM (O7 oM))|(rw[show(kk-1+1).toNat=kk.toNat from by omega];exact EF hadj oM (O8 oM))|(rw[show(kk-1+1).toNat=kk.toNat from by omega];exact EF hadj oM (O9 oM))|(rw[show(kk-1+1).toNat=kk.toNat from by omega];exact EF hadj oM (Oa oM))|(rw[show(kk-1+1).toNat=kk.toNat from by omega];exact EF hadj oM (Ob oM))|(rw[show(kk-1+1).toNat=kk.toNat from by omega];exact EF hadj oM (Qy oM))):p:=h
theorem Ij {p:Prop}(h:p:=by(try rw[show((1000002:Nat):Int)=1000002 from rfl]);first|(rw[← O7 (k:=kk.toNat) (R:=R) oM];exact EZ hxs oM (hform _ hkn))|(rw[← O8 (k:=kk.toNat) (R:=R) oM];exact EZ hxs oM (hform _ hkn))|(rw[← O9 (k:=kk.toNat) (R:=R) oM];exact EZ hxs oM (hform _ hkn))|(rw[← Oa (k:=kk.toNat) (R:=R) oM];exact EZ hxs oM (hform _ hkn))|(rw[← Ob (k:=kk.toNat) (R:=R) oM];exact EZ hxs oM (hform _ hkn))|exact hxs):p:=h
theorem E7 {p:Prop}(h:p:=by first|exact hro.2|exact hRa.2|exact hRb.2|exact hRk.2|exact FL _ _|exact Hx _ _|exact FK _ _):p:=h
theorem Fk {p:Prop}(h:p:=by refine⟨?_,?_⟩ <;> first|omega|(simp only[J7,J4,Hy,J6];omega)):p:=h
theorem Fl {p:Prop}(h:p:=by first|exact hro.2|exact FL _ _|exact Hx _ _|exact FK _ _):p:=h
theorem E8 {p:Prop}(h:p:=by first|omega|(simp only[J7,J4,Hy,J6];omega)):p:=h
theorem Ik {p:Prop}(h:p:=by first|exact hxl|(simp only[BY];exact hxl)):p:=h
theorem G3 (w:World)(m:Nat)(ni:Nat)(S:List Nat)(ipT:Int)(vtc vtg vtx:Value)(T:Tp)(oT:Sr)(vr:Value)(R:List (Sr))(vw:Value)(ws:Sr)(c1:∀b∈S,b<w.heap.size)(_hipT:Bn ipT)(htcT:RN [] (Cx 4 Ix) w.heap vtc T.code)(htgT:RN [] (Cx 2 Iy) w.heap vtg T.grd)(htoT:RN [] (B4 rI) w.heap vtx oT)(hR:RN [] (B4 (B4 rI)) w.heap vr R)(hqR:CD vr)(hws:Rd (B4 rI) w.heap vw ws)(hm:1≤m∧m≤13)(hsR:CB m R)(hlR:R.length=T.code.length)(hlt:T.code.length≤4000)(hlo:oT.length≤ws.length∧ws.length≤1000000)(ho:∀k,k<oT.length→0≤oT.getD k 0∧oT.getD k 0<(T.code.length:Int))(hnw:B9 ws=true)(hform:∀k,k<T.code.length→Dj ni k (T.code.getD k Aw.zero)) :
  Calls Tryz.prog 128 #[(.agg #[(zI ipT),vtc,vtg,vtx]),vr,vw] w (fun e w'=>∃v0:Value,e=.returned v0∧AE w w'∧RN S (B4 (B4 rI)) w'.heap v0 (FP T.code R oT ws)∧CD v0):=by
 refine Ap [.agg #[zI ipT,vtc,vtg,vtx],vr,vw] 159 Tryz.func128 Z Z sM ?_
 have jn:AE w w:=AE.refl w
 have hl_vtx:=htoT.lenL
 unfold maxLen at hl_vtx
 have f4:=hR.lenL
 unfold maxLen at f4
 have fj:=hws.lenle
 refine Z1 [3,0] Z (Bx (cs:=#[zI ipT,vtc,vtg,vtx]) Z Aa fun w1 gx ks gy=>?_)
 have gz:=gx.size
 have jo:=jn.trans gx
 replace gy:BX w1.heap w.heap.size [zI ipT,vtc,vtg,vtx]:=gy
 refine Ac 1 Z<|Z1 [3,3,4] Z (CH (B8 rI 2) o1 Bo Bs Aa fun v2 w2 gu kt jp=>?_)
 have i0:=gu.size
 have jq:=jo.trans gu
 have cu:=gy.ext gu
 have lu:=cu.lt
 refine Bj (z:=zN) (by kernel_rfl) Aa fun w3 dx ku i1=>?_
 have i3:=dx.size
 have i4:=jq.trans dx
 have dy:=cu.ext dx
 have c2:=jp.ext (o2) dx
 replace i1:BX w3.heap w2.heap.size [zN]:=i1
 refine Bi (k:=0) (w:=w3) TL Z Z (Bk c2.isSl) i1 sM Aa fun w5 dz kv gv=>?_
 replace gv:BX w5.heap w2.heap.size [v2]:=gv
 have jr:AE w w5:=dz.below i4 (fun _ h=>zE h) i4.size
 have i5:w3.heap.size≤w5.heap.size:=dz.size
 have js:=dy.chg dz (zB ·)
 have jt:=c2.chg (o2) dz fun _ h=>zA h
 refine Aj<|A0<|Z1 [0,0,0] Z<|Ad 1 Z<|AP (v:=vr) Bo Z hR.slL Aa<|Ac 1 Z<|A3 ?_
 have hLBa:w.heap.size<w1.heap.size:=by omega
 have hLBb:w1.heap.size≤w2.heap.size:=by omega
 have hLBc:=Nat.le_of_lt hLBa
 obtain⟨Fo8,e0⟩:=Ow.of_fr (T:=w2.heap.size) jt (A7 _)
 have kw:w2.heap.size∉Fo8:=fun hm=>zH<|e0.high _ hm
 have kx:=e0.up (T':=w5.heap.size) oM
 have ky:w2.heap.size<w5.heap.size:=BX.lt gv
 refine AV (S:=Nat×Value×List Nat) (fun⟨k,vo,Fo⟩=>([(20,zI (k:Int)),(1,vr),(2,vw),(3,zP w.heap.size),(7,zP w2.heap.size),(18,vr),(19,zI (R.length:Int))])) (fun⟨k,vo,Fo⟩ W=>AE w W∧BX W.heap w.heap.size [zI ipT,vtc,vtg,vtx]∧BX W.heap w2.heap.size [vo]∧k≤R.length∧Ow (B8 (B8 rI 2) 27) w1.heap.size W.heap.size W.heap vo (L5<|R.take k) Fo∧w2.heap.size∉Fo) (fun⟨k,vo,Fo⟩=>R.length-k) (0,v2,Fo8) ⟨rfl,rfl,rfl,rfl,rfl,rfl,rfl,trivial⟩ ⟨jr,js,gv,oM,(by assumption),(by assumption)⟩ ?_
 clear jn ks gx gz jo jp kt gu i0 jq ku dx i3 i4 c2 kv dz jr i5 js jt
 rintro⟨k,vo,Fo⟩ ρ9 w9 ⟨e1,ax,ap,ju,hOl,hgF⟩
 have i6:w.heap.size≤w9.heap.size:=e1.size
 have kz:=ax.lt
 have l0:=ap.lt
 have m1:w2.heap.size<w9.heap.size:=BX.lt ap
 refine Z1 [0] Z ?_
 by_cases e2:(k:Int)<(R.length:Int)
 ·refine AC true Z Z (A5 e2) Aa<|Aj<|A0<|Af Z<|A2<|A0<|A3<|Z1 [0,2,0] Z<|Az (v:=vr) k Bo Bs Z Z hR.slL Z sD Aa ?_
  obtain⟨e3,i8,e4⟩:=RN.getL (w:=w) g1 [] (k:=k) hR sD
  have e5:=e4.lenL
  unfold maxLen at e5
  refine Ah (p:=Ay vr k 1) (.inr Z) e3 BA Z (i8 _<|At.of_ext [] e1) Aa<|Ac 1 Z<|AW _ [1,0,0,3,3,4,4] mixed (by kernel_rfl) ?_
  have hrk:=hsR k oM
  have l1:=hrk.1
  refine Ah (p:=zP w2.heap.size) (.inl Z) vo GZ Z (ap.ld (k:=0) sM) Aa<|Ad 1 Z<|AP (v:=e3) Bm Z e4.slL Aa (FI (n:=(R.getD k []).length) Bm BC Z Z Z sD Aa fun fq m2 b5 l2 i9=>?_)
  replace b5:=b5.of_drew
  have jv:=b5.size
  have ia:=e1.trans b5
  have c3:=ax.ext b5
  have c4:=ap.ext b5
  have ib:=hOl.ext o2 b5
  refine BI (u:=fq) (B:=w9.heap.size) o1 Bo Bs Z Z i9 (by first|exact A7 _|omega) Aa fun fr fs c5 l3 ic=>?_
  have jw:=c5.size
  have e6:=ia.trans c5
  have c6:=c3.ext c5
  have c7:=c4.ext c5
  have df:=ib.ext o2 c5
  refine U4 o1 (v:=vo) (a:=fr) Bo Bs Z Z Z df ic oM oM oM sD (by unfold maxLen;first|omega|assumption|(simp;done)|(simp;omega)) Aa fun fk f9 fl ck e7 id=>?_
  have jx:fs.heap.size≤f9.heap.size:=ck.size
  have e8:AE w f9:=ck.below e6 (fun c hc=>A8 hLBc (df.low c (zj hc))) e6.size
  have ie:=c6.chg ck fun hm=>zH<|df.low _ (zj hm)
  have ig:=c7.chg ck fun hm=>hgF<|zj hm
  have hF25d:w2.heap.size∉fl:=fun hm=>(id _ hm).elim hgF (fun h9=>by omega)
  refine Bi (k:=0) (w:=f9) TL Z Z (Bk e7.slO) ig sM Aa fun fa cl l4 dg=>?_
  replace dg:BX fa.heap w2.heap.size [fk]:=dg
  have ih:AE w fa:=cl.below e8 (fun _ h=>zE h) e8.size
  have jy:f9.heap.size≤fa.heap.size:=cl.size
  have ii:=ie.chg cl (zB ·)
  have ij:=e7.keep o2 cl fun b hb hm=>by rw[A9 hb]at hm;exact hF25d hm
  refine Aj<|Ab _ [0,0] Z<|AM ((k+1:Nat):Int) Z Z (Ba oM sD) Aa<|Ac 1 Z ?_
  have hOe:=(ij).up (T':=fa.heap.size) oM
  rw[QA oM]at hOe
  exact⟨(k+1,fk,fl),_,rfl,zR,⟨ih,ii,dg,oM,hOe,(by assumption)⟩,zD⟩
 refine AC false Z Z (A6 e2) Aa<|Aj<|A0<|Ai Z<|A4<|Av<|Av<|Aq<|A0<|Z1 [0,2,0,0] Z<|Ak (p:=zP w.heap.size) 3 FR Z Z Aa<|Ah (p:=Ao (zP w.heap.size) 3) (.inr Z) vtx BA Z (ax.ldp (i:=3) sM) Aa<|AP (v:=vtx) Bm Z htoT.slL Aa<|Ac 1 Z<|A3 ?_
 refine AV (S:=Nat) (fun i=>([(34,zI (i:Int)),(1,vr),(2,vw),(3,zP w.heap.size),(7,zP w2.heap.size),(32,vtx),(33,zI (oT.length:Int))])) (fun i W=>AE w W∧BX W.heap w.heap.size [zI ipT,vtc,vtg,vtx]∧BX W.heap w2.heap.size [vo]∧i≤oT.length∧Ow (B8 (B8 rI 2) 27) w1.heap.size W.heap.size W.heap vo (MX oT ws i<|L5 R) Fo) (fun i=>oT.length-i) 0 ⟨rfl,rfl,rfl,rfl,rfl,rfl,rfl,trivial⟩ ⟨e1,ax,ap,oM,(by have h9:=hOl;rw[za oM]at h9;exact h9)⟩ ?_
 clear ap ax e1 i6
 rintro i ρ30 f5 ⟨b6,aj,a5,ik,ay⟩
 have e9:w.heap.size≤f5.heap.size:=b6.size
 have hwl:(MX oT ws i (L5 R)).length=T.code.length:=by rw[Ei,DR];exact hlR
 have l5:=aj.lt
 have l6:=a5.lt
 have l7:w2.heap.size<f5.heap.size:=BX.lt a5
 refine Z1 [0] Z ?_
 by_cases ea:(i:Int)<(oT.length:Int)
 ·refine AC true Z Z (A5 ea) Aa<|Aj<|A0<|Af Z<|A2<|A0<|A3<|Z1 [0,0,2,0,0] Z<|Ad 1 Z<|Az (v:=vtx) i Bm BC Z Z htoT.slL Z sD Aa ?_
  have il:=RN.getI (w:=w) (k:=i) htoT sD
  refine Ah (p:=Ay vtx i 1) (.inr Z) (zI<|oT.getD i 0) AB Z (il.1 _<|At.of_ext [] b6) Aa<|Ac 2 Z<|AW _ [1,0,0,1,1,0,0,1,0,1,0,0,0,1,0,0,4] mixed (by kernel_rfl) ?_
  have hor:=ho i oM
  have hrw:=HN (m:=m) (ws:=ws) (IT hsR) (fun q hq=>by have:=ho q hq;rw[DR];omega) i oM (oT.getD i 0).toNat oM
  have l8:=hrw.1
  refine Ah (p:=zP w2.heap.size) (.inl Z) vo GZ Z (a5.ld (k:=0) sM) Aa<|Ad 1 Z<|Az (v:=vo) ((oT.getD i 0).toNat) Bo Bs Z Z ay.slO oM sD Aa ?_
  obtain⟨dh,eb,ec⟩:=ay.rowO (k:=(oT.getD i 0).toNat) sD
  have ed:=(RN.of ec).lenL
  unfold maxLen at ed
  refine Ah (p:=Ay vo ((oT.getD i 0).toNat) 1) (.inl Z) dh BA Z eb Aa<|Ah (p:=zP w2.heap.size) (.inl Z) vo GZ Z (a5.ld (k:=0) sM) Aa<|Ad 1 Z<|Az (v:=vo) ((oT.getD i 0).toNat) Bo Bs Z Z ay.slO oM sD Aa ?_
  obtain⟨di,im,dj⟩:=ay.rowO (k:=(oT.getD i 0).toNat) sD
  have ee:=(RN.of dj).lenL
  unfold maxLen at ee
  refine Ah (p:=Ay vo ((oT.getD i 0).toNat) 1) (.inl Z) di BA Z im Aa<|Az (v:=di) 0 Bm BC Z Z (RN.of dj).slL Z sD Aa ?_
  have ef:=RN.getI (w:=f5) (k:=0) (RN.of dj) sD
  refine Ah (p:=Ay di 0 1) (.inl Z) (zI<|((MX oT ws i<|L5 R).getD ((oT.getD i 0).toNat) []).getD 0 0) AB Z (ef.1 _ (At.refl _ _).drew) Aa<|Ad 2 Z<|Az (v:=vw) i Bm BC Z Z hws.isSl Z sD Aa ?_
  refine Ah (p:=Ay vw i 1) (.inl Z) (zI<|ws.getD i 0) AB Z (Bb b6.drew (hws.getI sD).1) Aa ?_
  refine Ax 173 [] [] [zI<|((MX oT ws i<|L5 R).getD ((oT.getD i 0).toNat) []).getD 0 0,zI<|ws.getD i 0] Z Z QP Aa (zI<|md ((((MX oT ws i<|L5 R).getD ((oT.getD i 0).toNat) []).getD 0 0)+(ws.getD i 0))) (fun wq=>FS wq _ _ ef.2 (hws.getI sD).2) ?_
  refine Az (v:=dh) 0 Bm BC Z Z (RN.of ec).slL Z sD Aa ?_
  refine Sp (v:=vo) (u:=dh) (w:=f5.drew) GD Z Z (Dt _) ay sD eb sD Aa fun fb G39 bj l9 dk io=>?_
  replace bj:=bj.of_drew
  have jz:f5.heap.size≤fb.heap.size:=bj.size
  have ip:AE w fb:=bj.below b6 (fun c hc=>A8 hLBc (ay.low c (dk c hc))) b6.size
  have iq:=aj.chg bj fun hm=>zH<|ay.low _ (dk _ hm)
  have ir:=a5.chg bj fun hm=>hgF<|dk _ hm
  refine Aj<|Ab _ [0,0] Z<|AM ((i+1:Nat):Int) Z Z (Ba oM sD) Aa<|Ac 1 Z ?_
  have hOe:=(io).up (T':=fb.heap.size) oM
  exact⟨i+1,_,rfl,zR,⟨ip,iq,ir,oM,hOe⟩,zD⟩
 refine AC false Z Z (A6 ea) Aa<|Aj<|A0<|Ai Z<|A4<|Av<|Av<|Aq<|A0<|Z1 [0,2,0,0,0] Z ?_
 have hOw:=ay
 rw[show i=oT.length from by omega]at hOw
 obtain⟨la,F0,is,k0⟩:=Gb.ofOw (S:=S) hOw (fun b hb=>zH<|c1 b hb)
 have cm:w2.heap.size∉F0:=fun hm=>hgF (k0 _ hm)
 obtain⟨BO,hBO⟩:∃b:Nat,b=w1.heap.size:=⟨_,rfl⟩
 rw[← hBO]at is
 have hwB:w.heap.size≤BO:=by omega
 have hSB:∀b∈S,b<BO:=fun b hb=>zH<|c1 b hb
 obtain⟨B0,gw⟩:∃l:List Sr,l=MX oT ws oT.length (L5 R):=⟨_,rfl⟩
 rw[← gw]at is
 have lb:CB m B0:=by rw[gw];exact HN (IT hsR) (fun q hq=>by have:=ho q hq;rw[DR];omega) _ (A7 _)
 have lc:B0.length=T.code.length:=by rw[gw,Ei,DR];exact hlR
 refine Ak (p:=zP w.heap.size) 1 BZ Z Z Aa<|Ah (p:=Ao (zP w.heap.size) 1) (.inr Z) vtc D8 Z (aj.ldp (i:=1) sM) Aa<|AP (v:=vtc) Id Z htcT.isSl Aa ?_
 refine Br ((T.code.length:Int)-((1:Nat):Int)) Z Z (D3 sD sD) Aa<|Ac 1 Z<|A3 ?_
 refine AV (S:=Int×List Sr×List Value) (fun⟨kk,xs,us⟩=>([(12,zI kk),(1,vr),(3,zP w.heap.size),(7,zP w2.heap.size)])) (fun⟨kk,xs,us⟩ W=>AE w W∧BX W.heap w.heap.size [zI ipT,vtc,vtg,vtx]∧BX W.heap w2.heap.size [vo]∧(-1≤kk∧kk<(T.code.length:Int))∧Gb 27 S BO W.heap vo xs us F0∧CB m xs∧xs.length=T.code.length∧Qw T.code R (kk+1).toNat xs=Qw T.code R T.code.length B0) (fun⟨kk,xs,us⟩=>(kk+1).toNat) ((T.code.length:Int)-1,B0,la) ⟨rfl,rfl,rfl,rfl,trivial⟩ ⟨b6,aj,a5,oM,is,lb,lc,(by rw[show((T.code.length:Int)-1+1).toNat=T.code.length from by omega])⟩ ?_
 clear a5 aj b6 e9 k0
 rintro⟨kk,xs,us⟩ ρ42 f0 ⟨cn,au,a8,it,hbl,hxs,hxl,hadj⟩
 have k1:w.heap.size≤f0.heap.size:=cn.size
 have le:=au.lt
 have lf:=a8.lt
 have hFl:∀b∈F0,b<f0.heap.size:=hbl.lt
 have lg:=BX.lt a8
 refine A0<|Z1 [0,0] Z<|Ad 1 Z ?_
 by_cases eg:((0:Nat):Int)≤kk
 ·refine D5 true Z Z (A5 eg) Aa<|Aj<|Af Z<|A2<|A0<|A3<|A0 ?_
  letI:JR:=Rx [f0.drew.heap.size]
  refine Jx.AW _ [0,1,0,0,1,1,0,0,1,3,3,0] mixed (by kernel_rfl) ?_
  have ba:∀wj,At [f0.drew.heap.size] f0.drew wj→AE f0.drew wj:=fun wj hj=>At.toExt hj (fun b hb=>Nat.le_of_eq (A9 hb).symm)
  have hkn:kk.toNat<T.code.length:=by omega
  have hro:=hxs kk.toNat oM
  have lh:=hro.1
  have hRk:=hsR kk.toNat oM
  have li:=hRk.1
  refine Jx.Ak (p:=zP w.heap.size) 1 BZ Z Z Aa<|Jx.Y2 (p:=Ao (zP w.heap.size) 1) vtc D8 Z (fun wj hj=>(BX.ext (w:=f0.drew) au<|ba wj hj).ldp (i:=1) sM) Aa<|Jx.U0 (zI kk) Z Aa<|Jx.Az (v:=vtc) ((kk).toNat) Id DN Z Z htcT.isSl oM sD Aa ?_
  obtain⟨cs49,iu,iv⟩:=htcT.get AL Aw.zero (k:=(kk).toNat) sD
  obtain⟨rfl,av⟩:=Ep iu
  refine Jx.Vn (p:=Ay vtc ((kk).toNat) 4) [zI<|(T.code.getD ((kk).toNat) Aw.zero).op,zI<|(T.code.getD ((kk).toNat) Aw.zero).a,zI<|(T.code.getD ((kk).toNat) Aw.zero).b,zI<|(T.code.getD ((kk).toNat) Aw.zero).num] DM Z (fun wj hj=>iv wj<|At.of_ext []<|cn.drew.trans<|ba wj hj) Z Aa<|Jx.Y2 (p:=zP w2.heap.size) vo GZ Z (fun wj hj=>(BX.ext (w:=f0.drew) a8<|ba wj hj).ldp (i:=0) sM) Aa<|Jx.U0 (zI kk) Z Aa ?_
  refine Jx.Az (v:=vo) ((kk).toNat) Bo Bs Z Z (hbl.done hSB).none.slL oM sD Aa ?_
  obtain⟨a9,iw,dl⟩:=hbl.getF (k:=(kk).toNat) sD
  have eh:=dl.lenL
  unfold maxLen at eh
  refine Jx.Y2 (p:=Ay vo ((kk).toNat) 1) a9 BA Z (fun wj hj=>Bb (w:=f0.drew) (ba wj hj) iw) Aa ?_
  have lj:=au.lt
  have lk:=a8.lt
  have k2:f0.drew.heap.size=f0.heap.size:=rfl
  refine Jx.Yl<|Bj (z:=.agg #[zI 0,zI 0,zI 0,zI 0]) QV Aa ?_
  intro fm ac ll dm
  refine Aj ?_
  replace ac:=ac.of_drew
  have k3:=ac.size
  have ei:=cn.trans ac
  have bk:=au.ext ac
  have bl:=a8.ext ac
  have lm:=hbl.ext ac
  have ln:=dl.ext g1 ac
  replace dm:BX fm.heap f0.drew.heap.size [zI 0,zI 0,zI 0,zI 0]:=dm
  refine Jx.Z6 (Bw (vs:=[zI<|(T.code.getD ((kk).toNat) Aw.zero).op,zI<|(T.code.getD ((kk).toNat) Aw.zero).a,zI<|(T.code.getD ((kk).toNat) Aw.zero).b,zI<|(T.code.getD ((kk).toNat) Aw.zero).num]) DM Z Z (by intro u hu;simp only[ze,z2,or_false]at hu;rcases hu with rfl|rfl|rfl|rfl <;> first|exact⟨rfl,rfl⟩) dm Z Z Aa fun f1 b7 lo a6=>?_)
  replace a6:BX f1.heap f0.drew.heap.size [zI ((T.code.getD ((kk).toNat) Aw.zero).op),zI ((T.code.getD ((kk).toNat) Aw.zero).a),zI ((T.code.getD ((kk).toNat) Aw.zero).b),zI ((T.code.getD ((kk).toNat) Aw.zero).num)]:=a6
  have ad:AE w f1:=b7.below ei (fun _ h=>zE h) ei.size
  have k4:fm.heap.size≤f1.heap.size:=b7.size
  have bm:=bk.chg b7 (zB ·)
  have az:=bl.chg b7 (zB ·)
  have ae:=hbl.ext<|b7.below ac (fun _ h=>zE h) ac.size
  have an:=dl.ext g1<|b7.below ac (fun _ h=>zE h) ac.size
  refine Aj ⟨b7,?_⟩
  refine Jx.Pc a9 Z Aa<|Jx.Aj<|Z1 [0,0] Z<|KJ [] [zP w2.heap.size] Z Z Aa<|Ac 1 Z<|Z1 [0,2] Z<|Ak (p:=zP f0.drew.heap.size) 0 Fd Z Z Aa<|Ah (p:=Ao (zP f0.drew.heap.size) 0) (.inr Z) (zI<|(T.code.getD ((kk).toNat) Aw.zero).op) AB Z (a6.ldp (i:=0) sM) Aa<|Aj<|A3<|Z1 [0,0] Z ?_
  by_cases ej:(T.code.getD ((kk).toNat) Aw.zero).op=((3:Nat):Int)
  ·refine Al true Z Z (A5 ej) Aa<|Ac 1 Z<|Af Z<|Z1 [0,0,2,0,4] Z ?_
   have hio:=(hform kk.toNat hkn).i2 oM
   have hra:=hxs (T.code.getD kk.toNat Aw.zero).a.toNat oM
   have co:=hra.1
   have hRa:=hsR (T.code.getD kk.toNat Aw.zero).a.toNat oM
   have hRb:=hsR (T.code.getD kk.toNat Aw.zero).b.toNat oM
   have dn:=hRa.1
   have dp:=hRb.1
   refine Ad 1 Z<|Ak (p:=zP f0.drew.heap.size) 1 C4 Z Z Aa<|Ah (p:=Ao (zP f0.drew.heap.size) 1) (.inr Z) (zI<|(T.code.getD ((kk).toNat) Aw.zero).a) AB Z (a6.ldp (i:=1) sM) Aa<|Ad 1 Z ?_
   refine AA 183 [] [zP w2.heap.size] [zI<|(T.code.getD ((kk).toNat) Aw.zero).a,a9,zP w2.heap.size] Z Z HT Aa (Bd _ ((T.code.getD ((kk).toNat) Aw.zero).a) a9 (xs.getD ((kk).toNat) []) S w2.heap.size vo (xs) _ _ BO av.2.1 an.rd (az.ld (k:=0) sM) ae hSB (fun b hb=>zH<|c1 b hb) oM Fk hra.2 Fl) ?_
   rintro m3 fc ⟨rfl,bn,lp,cp⟩
   refine⟨_,rfl,?_⟩
   have k5:f1.heap.size≤fc.heap.size:=bn.size
   have ek:AE w fc:=bn.below ad (fun c hc=>A8 hwB (ae.low c hc)) ad.size
   have ix:=bm.chg bn fun hm=>by have:=ae.low _ hm;have:=hFl _ hm;omega
   have el:=az.chg bn fun hm=>cm hm
   have em:=a6.chg bn fun hm=>by have:=ae.low _ hm;have:=hFl _ hm;omega
   have en:=an.chg g1<|bn.sub fun b hb=>z1 _ hb
   have dq:CB m (DI xs (T.code.getD kk.toNat Aw.zero).a (xs.getD kk.toNat [])):=CJ hxs oM
   have iy:(DI xs (T.code.getD kk.toNat Aw.zero).a (xs.getD kk.toNat [])).length=T.code.length:=by rw[BY];exact hxl
   have hrb:=dq (T.code.getD kk.toNat Aw.zero).b.toNat oM
   have dr:=hrb.1
   refine Aj<|Ab _ [0,0,2,0,4] Z<|Ad 1 Z<|Ak (p:=zP f0.drew.heap.size) 2 C5 Z Z Aa<|Ah (p:=Ao (zP f0.drew.heap.size) 2) (.inr Z) (zI<|(T.code.getD ((kk).toNat) Aw.zero).b) AB Z (em.ldp (i:=2) sM) Aa<|Ad 1 Z ?_
   refine AA 183 [] [zP w2.heap.size] [zI<|(T.code.getD ((kk).toNat) Aw.zero).b,a9,zP w2.heap.size] Z Z HT Aa (Bd _ ((T.code.getD ((kk).toNat) Aw.zero).b) a9 (xs.getD ((kk).toNat) []) S w2.heap.size vo (DI xs ((T.code.getD ((kk).toNat) Aw.zero).a)<|xs.getD ((kk).toNat) []) _ _ BO av.2.2.1 en.rd (el.ld (k:=0) sM) cp hSB (fun b hb=>zH<|c1 b hb) oM Fk hrb.2 Fl) ?_
   rintro m4 fo ⟨rfl,bo,iz,j0⟩
   refine⟨_,rfl,?_⟩
   have k6:fc.heap.size≤fo.heap.size:=bo.size
   have j1:AE w fo:=bo.below ek (fun c hc=>A8 hwB (cp.low c hc)) ek.size
   have j2:=ix.chg bo fun hm=>by have:=cp.low _ hm;have:=hFl _ hm;omega
   have j3:=el.chg bo fun hm=>cm hm
   have lq:=em.chg bo fun hm=>by have:=cp.low _ hm;have:=hFl _ hm;omega
   have lr:=en.chg g1<|bo.sub fun b hb=>z1 _ hb
   refine Aj<|Ab _ [0,0,0] Z<|Ad 1 Z<|Br (kk-((1:Nat):Int)) Z Z (D3 sD sD) Aa<|Ac 1 Z ?_
   have hbe:=j0
   exact⟨(kk-1,DI (DI xs ((T.code.getD ((kk).toNat) Aw.zero).a) (xs.getD ((kk).toNat) [])) ((T.code.getD ((kk).toNat) Aw.zero).b) (xs.getD ((kk).toNat) []),iz),_,rfl,zR,⟨j1,j2,j3,oM,hbe,Ij,Ik,Ii⟩,zD⟩
  refine Al false Z Z (A6 ej) Aa<|Ac 1 Z<|Ai Z<|Z1 [0,0] Z ?_
  by_cases eo:(T.code.getD ((kk).toNat) Aw.zero).op=((4:Nat):Int)
  ·refine Al true Z Z (A5 eo) Aa<|Ac 1 Z<|Af Z<|Z1 [0,0,2,0,4] Z ?_
   have hio:=(hform kk.toNat hkn).i2 oM
   have hra:=hxs (T.code.getD kk.toNat Aw.zero).a.toNat oM
   have co:=hra.1
   have hRa:=hsR (T.code.getD kk.toNat Aw.zero).a.toNat oM
   have hRb:=hsR (T.code.getD kk.toNat Aw.zero).b.toNat oM
   have dn:=hRa.1
   have dp:=hRb.1
   refine Ad 1 Z<|Ak (p:=zP f0.drew.heap.size) 1 C4 Z Z Aa<|Ah (p:=Ao (zP f0.drew.heap.size) 1) (.inr Z) (zI<|(T.code.getD ((kk).toNat) Aw.zero).a) AB Z (a6.ldp (i:=1) sM) Aa<|Ad 1 Z ?_
   refine AA 183 [] [zP w2.heap.size] [zI<|(T.code.getD ((kk).toNat) Aw.zero).a,a9,zP w2.heap.size] Z Z HT Aa (Bd _ ((T.code.getD ((kk).toNat) Aw.zero).a) a9 (xs.getD ((kk).toNat) []) S w2.heap.size vo (xs) _ _ BO av.2.1 an.rd (az.ld (k:=0) sM) ae hSB (fun b hb=>zH<|c1 b hb) oM Fk hra.2 Fl) ?_
   rintro m5 fd ⟨rfl,bp,ls,j4⟩
   refine⟨_,rfl,?_⟩
   have k7:f1.heap.size≤fd.heap.size:=bp.size
   have j5:AE w fd:=bp.below ad (fun c hc=>A8 hwB (ae.low c hc)) ad.size
   have j6:=bm.chg bp fun hm=>by have:=ae.low _ hm;have:=hFl _ hm;omega
   have j7:=az.chg bp fun hm=>cm hm
   have ep:=a6.chg bp fun hm=>by have:=ae.low _ hm;have:=hFl _ hm;omega
   have eq:=an.chg g1<|bp.sub fun b hb=>z1 _ hb
   have dq:CB m (DI xs (T.code.getD kk.toNat Aw.zero).a (xs.getD kk.toNat [])):=CJ hxs oM
   have iy:(DI xs (T.code.getD kk.toNat Aw.zero).a (xs.getD kk.toNat [])).length=T.code.length:=by rw[BY];exact hxl
   have hrb:=dq (T.code.getD kk.toNat Aw.zero).b.toNat oM
   have dr:=hrb.1
   refine Aj<|AW _ [0,0,1,0,3,4] mixed (by kernel_rfl)<|Ad 1 Z<|Ak (p:=zP f0.drew.heap.size) 2 C5 Z Z Aa<|Ah (p:=Ao (zP f0.drew.heap.size) 2) (.inl Z) (zI<|(T.code.getD ((kk).toNat) Aw.zero).b) AB Z (ep.ldp (i:=2) sM) Aa<|Ad 1 Z<|Au 181 [] [] [a9,zI ((1000002:Nat):Int)] Z Z Mm Aa (CT _ _ _ _ eq.rd oM E8 E7 oM) ?_
   rintro m6 ft ⟨cv,rfl,ao,aw⟩
   refine⟨_,rfl,ao,?_⟩
   replace ao:=ao.of_drew
   have k8:=ao.size
   have er:=j5.trans ao
   have cq:=j6.ext ao
   have bb:=j7.ext ao
   have cr:=ep.ext ao
   have ct:=j4.ext ao
   have j8:=eq.ext g1 ao
   replace aw:=aw.low (B':=fd.heap.size)<|A7 _
   refine AA 183 [] [zP w2.heap.size] [zI<|(T.code.getD ((kk).toNat) Aw.zero).b,cv,zP w2.heap.size] Z Z HT Aa (Bd _ ((T.code.getD ((kk).toNat) Aw.zero).b) cv (CQ (xs.getD ((kk).toNat) []) ((1000002:Nat):Int)) S w2.heap.size vo (DI xs ((T.code.getD ((kk).toNat) Aw.zero).a)<|xs.getD ((kk).toNat) []) _ _ BO av.2.2.1 aw.rd1 (bb.ld (k:=0) sM) ct hSB (fun b hb=>zH<|c1 b hb) oM Fk hrb.2 Fl) ?_
   rintro m7 fp ⟨rfl,b8,j9,ja⟩
   refine⟨_,rfl,?_⟩
   have k9:ft.heap.size≤fp.heap.size:=b8.size
   have jb:AE w fp:=b8.below er (fun c hc=>A8 hwB (ct.low c hc)) er.size
   have es:=cq.chg b8 fun hm=>by have:=ct.low _ hm;have:=hFl _ hm;omega
   have et:=bb.chg b8 fun hm=>cm hm
   have ka:=cr.chg b8 fun hm=>by have:=ct.low _ hm;have:=hFl _ hm;omega
   have kb:=j8.chg g1<|b8.sub fun b hb=>z1 _ hb
   have kc:=aw.chg (o1) b8 fun c hc=>zH<|hFl c hc
   refine Aj<|Ab _ [0,0,0] Z<|Ad 1 Z<|Br (kk-((1:Nat):Int)) Z Z (D3 sD sD) Aa<|Ac 1 Z ?_
   have hbe:=ja
   exact⟨(kk-1,DI (DI xs ((T.code.getD ((kk).toNat) Aw.zero).a) (xs.getD ((kk).toNat) [])) ((T.code.getD ((kk).toNat) Aw.zero).b) (CQ (xs.getD ((kk).toNat) []) ((1000002:Nat):Int)),j9),_,rfl,zR,⟨jb,es,et,oM,hbe,Ij,Ik,Ii⟩,zD⟩
  refine Al false Z Z (A6 eo) Aa<|Ac 1 Z<|Ai Z<|Z1 [0,0] Z ?_
  by_cases cw:(T.code.getD ((kk).toNat) Aw.zero).op=((5:Nat):Int)
  ·refine Al true Z Z (A5 cw) Aa<|Ac 1 Z<|Af Z<|A0<|AW _ [0,0,1,0,0,0,1,0,1,3,4] mixed (by kernel_rfl) ?_
   have hio:=(hform kk.toNat hkn).i2 oM
   have hra:=hxs (T.code.getD kk.toNat Aw.zero).a.toNat oM
   have co:=hra.1
   have hRa:=hsR (T.code.getD kk.toNat Aw.zero).a.toNat oM
   have hRb:=hsR (T.code.getD kk.toNat Aw.zero).b.toNat oM
   have dn:=hRa.1
   have dp:=hRb.1
   refine Ad 1 Z<|Ak (p:=zP f0.drew.heap.size) 1 C4 Z Z Aa<|Ah (p:=Ao (zP f0.drew.heap.size) 1) (.inl Z) (zI<|(T.code.getD ((kk).toNat) Aw.zero).a) AB Z (a6.ldp (i:=1) sM) Aa<|Ad 2 Z<|Ak (p:=zP f0.drew.heap.size) 2 C5 Z Z Aa<|Ah (p:=Ao (zP f0.drew.heap.size) 2) (.inl Z) (zI<|(T.code.getD ((kk).toNat) Aw.zero).b) AB Z (a6.ldp (i:=2) sM) Aa ?_
   refine Az (v:=vr) (((T.code.getD ((kk).toNat) Aw.zero).b).toNat) Bo Bs Z Z hR.slL oM sD Aa ?_
   obtain⟨cx,eu,cy⟩:=RN.getL (w:=w) g1 [] (k:=((T.code.getD ((kk).toNat) Aw.zero).b).toNat) hR sD
   have ds:=cy.lenL
   unfold maxLen at ds
   refine Ah (p:=Ay vr (((T.code.getD ((kk).toNat) Aw.zero).b).toNat) 1) (.inl Z) cx BA Z (eu _<|At.of_ext [] ad.drew) Aa<|Au 180 [] [] [a9,cx] Z Z Om Aa (Dg _ _ _ _ _ an.rd (cy.ext g1 ad.drew).rd E8 E8 E7 E7) ?_
   rintro fu fe ⟨c8,rfl,a2,af⟩
   refine⟨_,rfl,a2,?_⟩
   replace a2:=a2.of_drew
   have jc:=a2.size
   have cz:=ad.trans a2
   have c9:=bm.ext a2
   have b0:=az.ext a2
   have ca:=a6.ext a2
   have bc:=ae.ext a2
   have ev:=an.ext g1 a2
   replace af:=af.low (B':=f1.heap.size)<|A7 _
   refine AA 183 [] [zP w2.heap.size] [zI<|(T.code.getD ((kk).toNat) Aw.zero).a,c8,zP w2.heap.size] Z Z HT Aa (Bd _ ((T.code.getD ((kk).toNat) Aw.zero).a) c8 (Cs (xs.getD ((kk).toNat) [])<|R.getD (((T.code.getD ((kk).toNat) Aw.zero).b).toNat) []) S w2.heap.size vo (xs) _ _ BO av.2.1 af.rd1 (b0.ld (k:=0) sM) bc hSB (fun b hb=>zH<|c1 b hb) oM Fk hra.2 Fl) ?_
   rintro fv f2 ⟨rfl,ak,kd,ew⟩
   refine⟨_,rfl,?_⟩
   have jd:fe.heap.size≤f2.heap.size:=ak.size
   have cb:AE w f2:=ak.below cz (fun c hc=>A8 hwB (bc.low c hc)) cz.size
   have ex:=c9.chg ak fun hm=>by have:=bc.low _ hm;have:=hFl _ hm;omega
   have ey:=b0.chg ak fun hm=>cm hm
   have cc:=ca.chg ak fun hm=>by have:=bc.low _ hm;have:=hFl _ hm;omega
   have d0:=ev.chg g1<|ak.sub fun b hb=>z1 _ hb
   have ez:=af.chg (o1) ak fun c hc=>zH<|hFl c hc
   have dq:CB m (DI xs (T.code.getD kk.toNat Aw.zero).a (Cs (xs.getD kk.toNat []) (R.getD (T.code.getD kk.toNat Aw.zero).b.toNat []))):=CJ hxs oM
   have iy:(DI xs (T.code.getD kk.toNat Aw.zero).a (Cs (xs.getD kk.toNat []) (R.getD (T.code.getD kk.toNat Aw.zero).b.toNat []))).length=T.code.length:=by rw[BY];exact hxl
   have hrb:=dq (T.code.getD kk.toNat Aw.zero).b.toNat oM
   have dr:=hrb.1
   refine Aj<|AW _ [0,0,1,0,0,0,1,0,1,3,4] mixed (by kernel_rfl)<|Ad 1 Z<|Ak (p:=zP f0.drew.heap.size) 2 C5 Z Z Aa<|Ah (p:=Ao (zP f0.drew.heap.size) 2) (.inl Z) (zI<|(T.code.getD ((kk).toNat) Aw.zero).b) AB Z (cc.ldp (i:=2) sM) Aa<|Ad 2 Z<|Ak (p:=zP f0.drew.heap.size) 1 C4 Z Z Aa<|Ah (p:=Ao (zP f0.drew.heap.size) 1) (.inl Z) (zI<|(T.code.getD ((kk).toNat) Aw.zero).a) AB Z (cc.ldp (i:=1) sM) Aa ?_
   refine Az (v:=vr) (((T.code.getD ((kk).toNat) Aw.zero).a).toNat) Bo Bs Z Z hR.slL oM sD Aa ?_
   obtain⟨d1,g0,d2⟩:=RN.getL (w:=w) g1 [] (k:=((T.code.getD ((kk).toNat) Aw.zero).a).toNat) hR sD
   have dt:=d2.lenL
   unfold maxLen at dt
   refine Ah (p:=Ay vr (((T.code.getD ((kk).toNat) Aw.zero).a).toNat) 1) (.inl Z) d1 BA Z (g0 _<|At.of_ext [] cb.drew) Aa<|Au 180 [] [] [a9,d1] Z Z Om Aa (Dg _ _ _ _ _ d0.rd (d2.ext g1 cb.drew).rd E8 E8 E7 E7) ?_
   rintro fw ff ⟨cd,rfl,a0,ag⟩
   refine⟨_,rfl,a0,?_⟩
   replace a0:=a0.of_drew
   have je:=a0.size
   have d3:=cb.trans a0
   have bq:=ex.ext a0
   have aq:=ey.ext a0
   have br:=cc.ext a0
   have bs:=ez.ext (o1) a0
   have bd:=ew.ext a0
   have g2:=d0.ext g1 a0
   replace ag:=ag.low (B':=f2.heap.size)<|A7 _
   refine AA 183 [] [zP w2.heap.size] [zI<|(T.code.getD ((kk).toNat) Aw.zero).b,cd,zP w2.heap.size] Z Z HT Aa (Bd _ ((T.code.getD ((kk).toNat) Aw.zero).b) cd (Cs (xs.getD ((kk).toNat) [])<|R.getD (((T.code.getD ((kk).toNat) Aw.zero).a).toNat) []) S w2.heap.size vo (DI xs ((T.code.getD ((kk).toNat) Aw.zero).a)<|Cs (xs.getD ((kk).toNat) [])<|R.getD (((T.code.getD ((kk).toNat) Aw.zero).b).toNat) []) _ _ BO av.2.2.1 ag.rd1 (aq.ld (k:=0) sM) bd hSB (fun b hb=>zH<|c1 b hb) oM Fk hrb.2 Fl) ?_
   rintro fx f6 ⟨rfl,aa,g3,g4⟩
   refine⟨_,rfl,?_⟩
   have jf:ff.heap.size≤f6.heap.size:=aa.size
   have g5:AE w f6:=aa.below d3 (fun c hc=>A8 hwB (bd.low c hc)) d3.size
   have g6:=bq.chg aa fun hm=>by have:=bd.low _ hm;have:=hFl _ hm;omega
   have g7:=aq.chg aa fun hm=>cm hm
   have ke:=br.chg aa fun hm=>by have:=bd.low _ hm;have:=hFl _ hm;omega
   have kf:=g2.chg g1<|aa.sub fun b hb=>z1 _ hb
   have kg:=bs.chg (o1) aa fun c hc=>zH<|hFl c hc
   have kh:=ag.chg (o1) aa fun c hc=>zH<|hFl c hc
   refine Aj<|Ab _ [0,0,0] Z<|Ad 1 Z<|Br (kk-((1:Nat):Int)) Z Z (D3 sD sD) Aa<|Ac 1 Z ?_
   have hbe:=g4
   exact⟨(kk-1,DI (DI xs ((T.code.getD ((kk).toNat) Aw.zero).a) (Cs (xs.getD ((kk).toNat) []) (R.getD (((T.code.getD ((kk).toNat) Aw.zero).b).toNat) []))) ((T.code.getD ((kk).toNat) Aw.zero).b) (Cs (xs.getD ((kk).toNat) []) (R.getD (((T.code.getD ((kk).toNat) Aw.zero).a).toNat) [])),g3),_,rfl,zR,⟨g5,g6,g7,oM,hbe,Ij,Ik,Ii⟩,zD⟩
  refine Al false Z Z (A6 cw) Aa<|Ac 1 Z<|Ai Z<|Z1 [0,0] Z ?_
  by_cases d4:(T.code.getD ((kk).toNat) Aw.zero).op=((6:Nat):Int)
  ·refine Al true Z Z (A5 d4) Aa<|Ac 1 Z<|Af Z<|Z1 [0,0,0,2,0,2,3,0] Z ?_
   have hio:=(hform kk.toNat hkn).i2 oM
   have hra:=hxs (T.code.getD kk.toNat Aw.zero).a.toNat oM
   have co:=hra.1
   have hRa:=hsR (T.code.getD kk.toNat Aw.zero).a.toNat oM
   have hRb:=hsR (T.code.getD kk.toNat Aw.zero).b.toNat oM
   have dn:=hRa.1
   have dp:=hRb.1
   refine Ad 2 Z<|Ak (p:=zP f0.drew.heap.size) 2 C5 Z Z Aa<|Ah (p:=Ao (zP f0.drew.heap.size) 2) (.inr Z) (zI<|(T.code.getD ((kk).toNat) Aw.zero).b) AB Z (a6.ldp (i:=2) sM) Aa<|Az (v:=vr) (((T.code.getD ((kk).toNat) Aw.zero).b).toNat) Bo Bs Z Z hR.slL oM sD Aa ?_
   obtain⟨d5,g8,d6⟩:=RN.getL (w:=w) g1 [] (k:=((T.code.getD ((kk).toNat) Aw.zero).b).toNat) hR sD
   have du:=d6.lenL
   unfold maxLen at du
   refine Ah (p:=Ay vr (((T.code.getD ((kk).toNat) Aw.zero).b).toNat) 1) (.inr Z) d5 BA Z (g8 _<|At.of_ext [] ad) Aa<|Au 182 [] [] [a9,d5] Z Z TC Aa (Ft _ _ _ _ _ an.rd (d6.ext g1 ad).rd E8 E8 oM E7 E7) ?_
   rintro fy fg ⟨b9,rfl,ab,be⟩
   refine⟨_,rfl,ab,?_⟩
   have jg:=ab.size
   have d7:=ad.trans ab
   have ce:=bm.ext ab
   have b1:=az.ext ab
   have b2:=a6.ext ab
   have bf:=ae.ext ab
   have g9:=an.ext g1 ab
   refine Ac 1 Z<|Z1 [0,0,2,0,4] Z<|Ad 1 Z<|Ak (p:=zP f0.drew.heap.size) 1 C4 Z Z Aa<|Ah (p:=Ao (zP f0.drew.heap.size) 1) (.inr Z) (zI<|(T.code.getD ((kk).toNat) Aw.zero).a) AB Z (b2.ldp (i:=1) sM) Aa<|Ad 1 Z ?_
   refine AA 183 [] [zP w2.heap.size] [zI<|(T.code.getD ((kk).toNat) Aw.zero).a,b9,zP w2.heap.size] Z Z HT Aa (Bd _ ((T.code.getD ((kk).toNat) Aw.zero).a) b9 (Cm (xs.getD ((kk).toNat) [])<|R.getD (((T.code.getD ((kk).toNat) Aw.zero).b).toNat) []) S w2.heap.size vo (xs) _ _ BO av.2.1 be.rd1 (b1.ld (k:=0) sM) bf hSB (fun b hb=>zH<|c1 b hb) oM Fk hra.2 Fl) ?_
   rintro fz f3 ⟨rfl,al,ki,ga⟩
   refine⟨_,rfl,?_⟩
   have jh:fg.heap.size≤f3.heap.size:=al.size
   have cf:AE w f3:=al.below d7 (fun c hc=>A8 hwB (bf.low c hc)) d7.size
   have gb:=ce.chg al fun hm=>by have:=bf.low _ hm;have:=hFl _ hm;omega
   have gc:=b1.chg al fun hm=>cm hm
   have d8:=b2.chg al fun hm=>by have:=bf.low _ hm;have:=hFl _ hm;omega
   have gd:=g9.chg g1<|al.sub fun b hb=>z1 _ hb
   have d9:=be.chg (o1) al fun c hc=>zH<|hFl c hc
   have dq:CB m (DI xs (T.code.getD kk.toNat Aw.zero).a (Cm (xs.getD kk.toNat []) (R.getD (T.code.getD kk.toNat Aw.zero).b.toNat []))):=CJ hxs oM
   have iy:(DI xs (T.code.getD kk.toNat Aw.zero).a (Cm (xs.getD kk.toNat []) (R.getD (T.code.getD kk.toNat Aw.zero).b.toNat []))).length=T.code.length:=by rw[BY];exact hxl
   have hrb:=dq (T.code.getD kk.toNat Aw.zero).b.toNat oM
   have dr:=hrb.1
   refine Aj<|AW _ [0,0,1,0,0,0,0,1,3,3,4] mixed (by kernel_rfl)<|Ad 1 Z<|Ak (p:=zP f0.drew.heap.size) 2 C5 Z Z Aa<|Ah (p:=Ao (zP f0.drew.heap.size) 2) (.inl Z) (zI<|(T.code.getD ((kk).toNat) Aw.zero).b) AB Z (d8.ldp (i:=2) sM) Aa<|Ad 3 Z ?_
   refine Az (v:=vr) ((kk).toNat) Bo Bs Z Z hR.slL oM sD Aa ?_
   obtain⟨da,ge,db⟩:=RN.getL (w:=w) g1 [] (k:=(kk).toNat) hR sD
   have dv:=db.lenL
   unfold maxLen at dv
   refine Ah (p:=Ay vr ((kk).toNat) 1) (.inl Z) da BA Z (ge _<|At.of_ext [] cf.drew) Aa<|Au 180 [] [] [b9,da] Z Z Om Aa (Dg _ _ _ _ _ d9.rd1 (db.ext g1 cf.drew).rd E8 E8 E7 E7) ?_
   rintro lv lw ⟨dw,rfl,a1,ah⟩
   refine⟨_,rfl,a1,?_⟩
   replace a1:=a1.of_drew
   have ji:=a1.size
   have gf:=cf.trans a1
   have bt:=gb.ext a1
   have bu:=gc.ext a1
   have bv:=d8.ext a1
   have bw:=d9.ext (o1) a1
   have gg:=ga.ext a1
   have gh:=gd.ext g1 a1
   replace ah:=ah.low (B':=f3.heap.size)<|A7 _
   refine Au 181 [] [] [dw,zI ((1000002:Nat):Int)] Z Z Mm Aa (CT _ _ _ _ ah.rd1 oM E8 E7 oM) ?_
   rintro lx fh ⟨cg,rfl,a3,bg⟩
   refine⟨_,rfl,a3,?_⟩
   have jj:=a3.size
   have dc:=gf.trans a3
   have bx:=bt.ext a3
   have ar:=bu.ext a3
   have bz:=bv.ext a3
   have c0:=bw.ext (o1) a3
   have b3:=ah.ext (o1) a3
   have bh:=gg.ext a3
   have gi:=gh.ext g1 a3
   refine AA 183 [] [zP w2.heap.size] [zI<|(T.code.getD ((kk).toNat) Aw.zero).b,cg,zP w2.heap.size] Z Z HT Aa (Bd _ ((T.code.getD ((kk).toNat) Aw.zero).b) cg (CQ (Cs (Cm (xs.getD ((kk).toNat) [])<|R.getD (((T.code.getD ((kk).toNat) Aw.zero).b).toNat) [])<|R.getD ((kk).toNat) []) ((1000002:Nat):Int)) S w2.heap.size vo (DI xs ((T.code.getD ((kk).toNat) Aw.zero).a)<|Cm (xs.getD ((kk).toNat) [])<|R.getD (((T.code.getD ((kk).toNat) Aw.zero).b).toNat) []) _ _ BO av.2.2.1 bg.rd1 (ar.ld (k:=0) sM) bh hSB (fun b hb=>zH<|c1 b hb) oM Fk hrb.2 Fl) ?_
   rintro ly f7 ⟨rfl,a7,gj,gk⟩
   refine⟨_,rfl,?_⟩
   have jk:fh.heap.size≤f7.heap.size:=a7.size
   have gl:AE w f7:=a7.below dc (fun c hc=>A8 hwB (bh.low c hc)) dc.size
   have gm:=bx.chg a7 fun hm=>by have:=bh.low _ hm;have:=hFl _ hm;omega
   have gn:=ar.chg a7 fun hm=>cm hm
   have kj:=bz.chg a7 fun hm=>by have:=bh.low _ hm;have:=hFl _ hm;omega
   have kl:=gi.chg g1<|a7.sub fun b hb=>z1 _ hb
   have km:=c0.chg (o1) a7 fun c hc=>zH<|hFl c hc
   have kn:=b3.chg (o1) a7 fun c hc=>zH<|hFl c hc
   have ko:=bg.chg (o1) a7 fun c hc=>zH<|hFl c hc
   refine Aj<|Ab _ [0,0,0] Z<|Ad 1 Z<|Br (kk-((1:Nat):Int)) Z Z (D3 sD sD) Aa<|Ac 1 Z ?_
   have hbe:=gk
   exact⟨(kk-1,DI (DI xs ((T.code.getD ((kk).toNat) Aw.zero).a) (Cm (xs.getD ((kk).toNat) []) (R.getD (((T.code.getD ((kk).toNat) Aw.zero).b).toNat) []))) ((T.code.getD ((kk).toNat) Aw.zero).b) (CQ (Cs (Cm (xs.getD ((kk).toNat) []) (R.getD (((T.code.getD ((kk).toNat) Aw.zero).b).toNat) [])) (R.getD ((kk).toNat) [])) ((1000002:Nat):Int)),gj),_,rfl,zR,⟨gl,gm,gn,oM,hbe,Ij,Ik,Ii⟩,zD⟩
  refine Al false Z Z (A6 d4) Aa<|Ac 1 Z<|Ai Z<|Z1 [0,0] Z ?_
  by_cases dd:(T.code.getD ((kk).toNat) Aw.zero).op=((7:Nat):Int)
  ·refine Al true Z Z (A5 dd) Aa<|Ac 1 Z<|Af Z<|AW _ [0,0,1,0,3,4] mixed (by kernel_rfl) ?_
   have hio:=(hform kk.toNat hkn).i7 oM
   have hra:=hxs (T.code.getD kk.toNat Aw.zero).a.toNat oM
   have co:=hra.1
   refine Ad 1 Z<|Ak (p:=zP f0.drew.heap.size) 1 C4 Z Z Aa<|Ah (p:=Ao (zP f0.drew.heap.size) 1) (.inl Z) (zI<|(T.code.getD ((kk).toNat) Aw.zero).a) AB Z (a6.ldp (i:=1) sM) Aa<|Ad 1 Z<|Au 181 [] [] [a9,zI ((1000002:Nat):Int)] Z Z Mm Aa (CT _ _ _ _ an.rd oM E8 E7 oM) ?_
   rintro lz fi ⟨ch,rfl,a4,ai⟩
   refine⟨_,rfl,a4,?_⟩
   replace a4:=a4.of_drew
   have jl:=a4.size
   have de:=ad.trans a4
   have ci:=bm.ext a4
   have b4:=az.ext a4
   have cj:=a6.ext a4
   have bi:=ae.ext a4
   have go:=an.ext g1 a4
   replace ai:=ai.low (B':=f1.heap.size)<|A7 _
   refine AA 183 [] [zP w2.heap.size] [zI<|(T.code.getD ((kk).toNat) Aw.zero).a,ch,zP w2.heap.size] Z Z HT Aa (Bd _ ((T.code.getD ((kk).toNat) Aw.zero).a) ch (CQ (xs.getD ((kk).toNat) []) ((1000002:Nat):Int)) S w2.heap.size vo (xs) _ _ BO av.2.1 ai.rd1 (b4.ld (k:=0) sM) bi hSB (fun b hb=>zH<|c1 b hb) oM Fk hra.2 Fl) ?_
   rintro m0 f8 ⟨rfl,am,gp,gq⟩
   refine⟨_,rfl,?_⟩
   have jm:fi.heap.size≤f8.heap.size:=am.size
   have gr:AE w f8:=am.below de (fun c hc=>A8 hwB (bi.low c hc)) de.size
   have gs:=ci.chg am fun hm=>by have:=bi.low _ hm;have:=hFl _ hm;omega
   have gt:=b4.chg am fun hm=>cm hm
   have kp:=cj.chg am fun hm=>by have:=bi.low _ hm;have:=hFl _ hm;omega
   have kq:=go.chg g1<|am.sub fun b hb=>z1 _ hb
   have kr:=ai.chg (o1) am fun c hc=>zH<|hFl c hc
   refine Aj<|Ab _ [0,0,0] Z<|Ad 1 Z<|Br (kk-((1:Nat):Int)) Z Z (D3 sD sD) Aa<|Ac 1 Z ?_
   have hbe:=gq
   exact⟨(kk-1,DI xs ((T.code.getD ((kk).toNat) Aw.zero).a) (CQ (xs.getD ((kk).toNat) []) ((1000002:Nat):Int)),gp),_,rfl,zR,⟨gr,gs,gt,oM,hbe,Ij,Ik,Ii⟩,zD⟩
  refine Al false Z Z (A6 dd) Aa<|Ac 1 Z<|Ai Z<|A2<|Ab _ [0,0,0] Z<|Ad 1 Z ?_
  refine Br (kk-((1:Nat):Int)) Z Z (D3 sD sD) Aa<|Ac 1 Z ?_
  have hbe:=ae
  exact⟨(kk-1,xs,us),_,rfl,zR,⟨ad,bm,az,oM,hbe,Ij,Ik,Ii⟩,zD⟩
 refine D5 false Z Z (A6 eg) Aa<|Aj<|Ai Z<|A4<|Av<|Av<|Aq<|Z1 [2,0] Z<|Ah (p:=zP w2.heap.size) (.inr Z) vo GZ Z (a8.ld (k:=0) sM) Aa<|Ac 1 Z<|A1 ?_
 have hfin:xs=FP T.code R oT ws:=by have h9:=hadj;rw[show(kk+1).toNat=0 from by omega,gw]at h9;exact h9
 exact Ag [6] Z vo Z ⟨_,rfl,cn,(by rw[← hfin];exact(hbl.done hSB)),hbl.cap⟩
theorem G4 (w:World)(m:Nat)(ni:Nat)(S:List Nat)(ipT:Int)(vtc vtg vtx:Value)(T:Tp)(oT:Sr)(vl:Value)(L:List (Sr))(b5:∀b∈S,b<w.heap.size)(_hipT:Bn ipT)(htcT:RN [] (Cx 4 Ix) w.heap vtc T.code)(htgT:RN [] (Cx 2 Iy) w.heap vtg T.grd)(htoT:RN [] (B4 rI) w.heap vtx oT)(hL:RN [] (B4 (B4 rI)) w.heap vl L)(hqL:CD vl)(hm:1≤m∧m≤13)(hni:ipT=(ni:Int)∧ni≤1000)(hsL:CB m L)(hlL:L.length=T.code.length∧0<L.length)(hlt:T.code.length≤4000)(hform:∀k,k<T.code.length→Dj ni k (T.code.getD k Aw.zero)) :
  Calls Tryz.prog 68 #[(.agg #[(zI ipT),vtc,vtg,vtx]),vl] w (fun e w'=>∃v0:Value,e=.returned v0∧AE w w'∧RN S (B4 (B4 rI)) w'.heap v0 (Ro ni m T.code L)∧CD v0):=by
 refine Ap [.agg #[zI ipT,vtc,vtg,vtx],vl] 54 Tryz.func68 Z Z sM ?_
 have bt:AE w w:=AE.refl w
 have hl_vtx:=htoT.lenL
 unfold maxLen at hl_vtx
 have cz:=hL.lenL
 unfold maxLen at cz
 have bu:=hsL 0 oM
 have c9:=bu.1
 refine Z1 [3,0] Z (Bx (cs:=#[zI ipT,vtc,vtg,vtx]) Z Aa fun w1 b6 ca b7=>?_)
 have b8:=b6.size
 have b9:=bt.trans b6
 replace b7:BX w1.heap w.heap.size [zI ipT,vtc,vtg,vtx]:=b7
 refine Ac 1 Z<|Z1 [3,0,0] Z (CH (B8 rI 2) o1 Bo Bs Aa fun v2 w2 b2 cb bv=>?_)
 have ba:=b2.size
 have bb:=b9.trans b2
 have ai:=b7.ext b2
 refine Ac 2 Z<|A0<|Z1 [0,0,0] Z<|Ad 1 Z<|AP (v:=vl) Bo Z hL.slL Aa ?_
 have cc:((0:Nat):Int)<(L.length:Int):=oM
 refine BH true Z Z (A5 cc) Aa<|Aj<|Af Z<|Ab _ [0,0,2,0,0] Z<|Ad 1 Z<|Az (v:=vl) 0 Bo Bs Z Z hL.slL Z sD Aa ?_
 obtain⟨bw,cd,bx⟩:=RN.getL (w:=w) g1 [] (k:=0) hL sD
 have ao:=bx.lenL
 unfold maxLen at ao
 refine Ah (p:=Ay vl 0 1) (.inr Z) bw BA Z (cd _<|At.of_ext [] bb) Aa<|AP (v:=bw) Bm Z bx.slL Aa<|Ac 1 Z<|A0<|Z1 [0,2,0] Z<|Ak (p:=zP w.heap.size) 0 Ld Z Z Aa<|Ah (p:=Ao (zP w.heap.size) 0) (.inr Z) (zI ipT) AB Z (ai.ldp (i:=0) sM) Aa<|Ac 1 Z<|A3 ?_
 refine AV (S:=Nat×Value) (fun⟨k,vo⟩=>([(5,vo),(19,zI (k:Int)),(1,vl),(2,zP w.heap.size),(6,zI (((L.getD 0 []).length:Nat):Int)),(18,zI ipT)])) (fun⟨k,vo⟩ W=>AE w W∧Fr (B8 (B8 rI 2) 27) w1.heap.size W.heap.size W.heap vo (List.replicate k<|List.replicate m 0)∧BX W.heap w.heap.size [zI ipT,vtc,vtg,vtx]∧k≤ni∧w.heap.size<w1.heap.size∧w1.heap.size≤W.heap.size) (fun⟨k,vo⟩=>ni-k) (0,v2) ⟨rfl,rfl,rfl,rfl,rfl,rfl,trivial⟩ ⟨bb,bv.up o2,ai,oM,oM,oM⟩ ?_
 clear bt bu ca b6 bv cb b2 ba bb ao
 rintro⟨k,vo⟩ ρ6 w6 ⟨b3,a4,a2,bz,ce,cf⟩
 have bc:w.heap.size≤w6.heap.size:=b3.size
 have cx:=a2.lt
 refine Z1 [0] Z ?_
 by_cases c0:(k:Int)<ipT
 ·refine AC true Z Z (A5 c0) Aa<|Aj<|A0<|Af Z<|A2<|A0<|A3<|Ab _ [0,0,3,3,4,0] Z<|Ad 2 Z (FI (n:=(L.getD 0 []).length) Bm BC Z Z Z sD Aa fun d5 da ab cg bd=>?_)
  have c1:=ab.size
  have be:=b3.trans ab
  have a5:=a4.ext (o2) ab
  have a6:=a2.ext ab
  refine BI (u:=d5) (B:=w6.heap.size) o1 Bo Bs Z Z bd (by first|exact A7 _|omega) Aa fun d6 d7 ac ch bf=>?_
  have c2:=ac.size
  have ap:=be.trans ac
  have a7:=a5.ext (o2) ac
  have a8:=a6.ext ac
  refine KM o1 (v:=vo) (a:=d6) Bo Bs Z Z Z a7 oM bf oM oM sD (by unfold maxLen;first|omega|assumption|(simp;done)|(simp;omega)) Aa fun d8 d1 db ak aq bg=>?_
  have bh:AE w d1:=ak.below ap (fun c hc=>A8 b9.size (aq c hc).1) ap.size
  have c3:d7.heap.size≤d1.heap.size:=ak.size
  have bi:=a8.chg ak fun hm=>zH<|aq _ hm
  exact Ac 1 Z<|Ab _ [0,0] Z<|AM ((k+1:Nat):Int) Z Z (Ba oM oM) Aa<|Ac 1 Z ⟨(k+1,d8),_,rfl,zR,⟨bh,(by have h:=bg.up o2;rw[c9,← List.replicate_succ']at h;exact h),bi,oM,oM,oM⟩,zD⟩
 refine AC false Z Z (A6 c0) Aa<|Aj<|A0<|Ai Z<|A4<|Av<|Av<|Aq<|A0<|Z1 [0,2,0,0] Z ?_
 have hOw:=a4
 rw[show k=ni from by omega]at hOw
 obtain⟨ci,F0,bj,cj⟩:=Gb.ofFr (S:=S) hOw (fun b hb=>zH<|b5 b hb)
 obtain⟨BO,hBO⟩:∃b:Nat,b=w1.heap.size:=⟨_,rfl⟩
 rw[← hBO]at bj
 have hwB:w.heap.size≤BO:=by omega
 have hSB:∀b∈S,b<BO:=fun b hb=>zH<|b5 b hb
 obtain⟨B0,b4⟩:∃l:List Sr,l=(List.replicate ni (List.replicate m 0)):=⟨_,rfl⟩
 rw[← b4]at bj
 have ck:CB m B0:=by rw[b4];exact L7 m ni
 have bk:B0.length=ni:=by rw[b4,z5]
 refine Ak (p:=zP w.heap.size) 1 BZ Z Z Aa<|Ah (p:=Ao (zP w.heap.size) 1) (.inr Z) vtc D8 Z (a2.ldp (i:=1) sM) Aa<|AP (v:=vtc) Id Z htcT.isSl Aa<|Ac 1 Z<|A3<|AV (S:=Nat×List Value) (fun⟨j,us⟩=>([(30,zI (j:Int)),(1,vl),(5,vo),(28,vtc),(29,zI (T.code.length:Int))])) (fun⟨j,us⟩ W=>AE w W∧j≤T.code.length∧Gb 27 S BO W.heap vo (MY T.code L j B0) us F0) (fun⟨j,us⟩=>T.code.length-j) (0,ci) ⟨rfl,rfl,rfl,rfl,rfl,trivial⟩ ⟨b3,oM,bj⟩ ?_
 clear b8 b9 a2 a4 b3 bc cj
 rintro⟨j,us⟩ ρ14 cy ⟨ad,bl,hbl⟩
 have c4:w.heap.size≤cy.heap.size:=ad.size
 have hFl:∀b∈F0,b<cy.heap.size:=hbl.lt
 refine Z1 [0] Z ?_
 by_cases ar:(j:Int)<(T.code.length:Int)
 ·refine AC true Z Z (A5 ar) Aa<|Aj<|A0<|Af Z<|A2<|A0<|A3<|Z1 [0,0,2,3,0,4] Z ?_
  have hjk:j<T.code.length:=by omega
  refine Ad 1 Z<|Az (v:=vtc) j Id DN Z Z htcT.isSl Z sD Aa ?_
  obtain⟨cs16,bm,bn⟩:=htcT.get AL Aw.zero (k:=j) sD
  obtain⟨rfl,cl⟩:=Ep bm
  refine AO (p:=Ay vtc j 4) (.inr Z) [zI<|(T.code.getD j Aw.zero).op,zI<|(T.code.getD j Aw.zero).a,zI<|(T.code.getD j Aw.zero).b,zI<|(T.code.getD j Aw.zero).num] DM Z (fun d9 cm=>bn d9<|At.of_ext []<|ad.trans cm) Z Aa (Bj (z:=.agg #[zI 0,zI 0,zI 0,zI 0]) QV Aa fun d2 a9 cn al=>?_)
  have c5:=a9.size
  have au:=ad.trans a9
  have co:=hbl.ext a9
  replace al:BX d2.heap cy.heap.size [zI 0,zI 0,zI 0,zI 0]:=al
  refine Ad 1 Z (Bw (vs:=[zI<|(T.code.getD j Aw.zero).op,zI<|(T.code.getD j Aw.zero).a,zI<|(T.code.getD j Aw.zero).b,zI<|(T.code.getD j Aw.zero).num]) DM Z Z (by intro u hu;simp only[ze,z2,or_false]at hu;rcases hu with rfl|rfl|rfl|rfl <;> first|exact⟨rfl,rfl⟩) al Z Z Aa fun d0 am cp a3=>?_)
  replace a3:BX d0.heap cy.heap.size [zI ((T.code.getD j Aw.zero).op),zI ((T.code.getD j Aw.zero).a),zI ((T.code.getD j Aw.zero).b),zI ((T.code.getD j Aw.zero).num)]:=a3
  have ae:AE w d0:=am.below au (fun _ h=>zE h) au.size
  have c6:d2.heap.size≤d0.heap.size:=am.size
  have af:=hbl.ext<|am.below a9 (fun _ h=>zE h) a9.size
  refine Aj<|Z1 [0,2,0] Z<|Ak (p:=zP cy.heap.size) 0 Fd Z Z Aa<|Ah (p:=Ao (zP cy.heap.size) 0) (.inr Z) (zI<|(T.code.getD j Aw.zero).op) AB Z (a3.ldp (i:=0) sM) Aa ?_
  by_cases av:(T.code.getD j Aw.zero).op=((1:Nat):Int)
  ·refine Al true Z Z (A5 av) Aa<|Aj<|Af Z<|AW _ [0,0,1,0,0,1,0,1,0,0,0,1,3,0,4] mixed (by kernel_rfl) ?_
   have hio:=(hform j hjk).i1 oM
   have hra:=IU (cs:=T.code) (L:=L) (B:=B0) (fun q hq=>by rw[bk];exact hform q hq) ck j oM (T.code.getD j Aw.zero).num.toNat (by rw[Gj,bk];omega)
   have cq:=hra.1
   have hLj:=hsL j oM
   have cr:=hLj.1
   have hbn:(MY T.code L j B0).length=ni:=by rw[Gj,bk]
   refine Ad 1 Z<|Ak (p:=zP cy.heap.size) 3 D1 Z Z Aa<|Ah (p:=Ao (zP cy.heap.size) 3) (.inl Z) (zI<|(T.code.getD j Aw.zero).num) AB Z (a3.ldp (i:=3) sM) Aa<|Ad 1 Z<|Ak (p:=zP cy.heap.size) 3 D1 Z Z Aa<|Ah (p:=Ao (zP cy.heap.size) 3) (.inl Z) (zI<|(T.code.getD j Aw.zero).num) AB Z (a3.ldp (i:=3) sM) Aa ?_
   refine Az (v:=vo) (((T.code.getD j Aw.zero).num).toNat) Bo Bs Z Z (af.done hSB).none.slL oM sD Aa ?_
   obtain⟨aw,bo,an⟩:=af.getF (k:=((T.code.getD j Aw.zero).num).toNat) sD
   have ax:=an.lenL
   unfold maxLen at ax
   refine Ah (p:=Ay vo (((T.code.getD j Aw.zero).num).toNat) 1) (.inl Z) aw BA Z bo Aa<|Ad 2 Z<|Az (v:=vl) j Bo Bs Z Z hL.slL Z sD Aa ?_
   obtain⟨ay,bp,az⟩:=RN.getL (w:=w) g1 [] (k:=j) hL sD
   have b0:=az.lenL
   unfold maxLen at b0
   refine Ah (p:=Ay vl j 1) (.inl Z) ay BA Z (bp _<|At.of_ext [] ae.drew) Aa<|Au 129 [] [] [aw,ay] Z Z Ok Aa (DT _ _ _ _ _ an.rd (az.ext g1 ae.drew).rd oM oM hra.2 hLj.2) ?_
   rintro dc d3 ⟨aj,rfl,a1,a0⟩
   refine⟨_,rfl,a1,?_⟩
   replace a1:=a1.of_drew
   have c7:=a1.size
   have b1:=ae.trans a1
   have ag:=a3.ext a1
   have ah:=af.ext a1
   have bq:=an.ext g1 a1
   replace a0:=a0.low (B':=d0.heap.size)<|A7 _
   refine Az (v:=vo) (((T.code.getD j Aw.zero).num).toNat) Bo Bs Z Z (ah.done hSB).none.slL oM sD Aa ?_
   refine Qz (v:=vo) (u:=aj) (w:=d3) P3 Z Z ah (RN.of_fr1 a0 fun b hb=>by rcases zi.1 hb with hb|hb;(have:=b5 b hb;omega);(have:=hFl b hb;omega)) sD Aa fun d4 aa ct br=>?_
   have c8:d3.heap.size≤d4.heap.size:=aa.size
   have bs:AE w d4:=aa.below b1 (fun c hc=>A8 hwB (ah.low c hc)) b1.size
   have cu:=ag.chg aa fun hm=>by have:=ah.low _ hm;have:=hFl _ hm;omega
   have cv:=bq.chg g1<|aa.sub fun b hb=>z1 _ hb
   have cw:=a0.chg (o1) aa fun c hc=>zH<|hFl c hc
   refine Aj<|Ab _ [0,0] Z<|AM ((j+1:Nat):Int) Z Z (Ba oM sD) Aa<|Ac 1 Z ?_
   have hbe:=br
   exact⟨(j+1,us.set (((T.code.getD j Aw.zero).num).toNat) aj),_,rfl,zR,⟨bs,oM,(by first|(rw[Ky oM];exact hbe)|(rw[Kz oM];exact hbe))⟩,zD⟩
  refine Al false Z Z (A6 av) Aa<|Aj<|Ai Z<|A2<|Ab _ [0,0] Z<|AM ((j+1:Nat):Int) Z Z (Ba oM sD) Aa<|Ac 1 Z ?_
  have hbe:=af
  exact⟨(j+1,us),_,rfl,zR,⟨ae,oM,(by first|(rw[Ky oM];exact hbe)|(rw[Kz oM];exact hbe))⟩,zD⟩
 exact AC false Z Z (A6 ar) Aa<|Aj<|A0<|Ai Z<|A4<|Av<|Av<|Aq<|Z1 [0,0] Z<|Ac 2 Z<|A1<|Ag [4] Z vo Z ⟨_,rfl,ad,(by have h9:=(hbl.done hSB);rw[show j=T.code.length from by omega,b4]at h9;exact h9),hbl.cap⟩
theorem Hf (w:World)(r:Int)(vm:Nat)(m:Int)(_hr:Bn r)(hcm:Fx w.heap (zP vm)=some (zI m))(_hm:Bn m)(hm:0≤m∧m≤1000000) :
  Calls Tryz.prog 132 #[zI r,zP vm] w (fun e w'=>e=.returned (.bool (!(decide (0≤r) && decide (r≤m-1))))∧AE w w'):=by
 refine Ap [zI r,zP vm] 9 Tryz.func132 Z Z sM ?_
 have a0:AE w w:=AE.refl w
 refine Z2 Z<|Z1 [0,2,0,0,0,0] Z<|Ad 1 Z<|Ah (.inr Z) (zI m) AB Z (Bb a0 hcm) Aa ?_
 refine Br (m-((1:Nat):Int)) Z Z (D3 sD sD) Aa ?_
 exact Ax 72 [] [] [zI r,zI ((0:Nat):Int),zI (m-((1:Nat):Int))] Z Z Du Aa (.bool (decide (((0:Nat):Int)≤r) && decide (r≤(m-((1:Nat):Int))))) (fun wq=>AS wq _ _ _ _hr oM oM)<|Bq (!(decide (((0:Nat):Int)≤r) && decide (r≤(m-((1:Nat):Int))))) Z Z Aa<|Ac 1 Z<|A1<|Ag [3] Z (.bool (!(decide (((0:Nat):Int)≤r) && decide (r≤(m-((1:Nat):Int)))))) Z ⟨AJ (by first|rfl|simp_all),a0⟩
theorem G5 {p:Prop}(h:p:=by first|rfl|exact AJ (A5 oM)|(exfalso;(try unfold Dj at hf);omega)):p:=h
theorem Dy {p:Prop}(h:p:=by rw[A5 oM,A5 oM];rfl):p:=h
theorem Gv (w:World)(ni:Nat)(ipT:Int)(vtc vtg vtx:Value)(T:Tp)(oT:Sr)(c:Aw)(k:Int)(_hipT:Bn ipT)(htcT:RN [] (Cx 4 Ix) w.heap vtc T.code)(htgT:RN [] (Cx 2 Iy) w.heap vtg T.grd)(htoT:RN [] (B4 rI) w.heap vtx oT)(hc:OO c)(_hk:Bn k)(hip:ipT=(ni:Int)∧ni≤12)(hk:0≤k∧k≤4000)(hf:Dj ni k.toNat c) :
  Calls Tryz.prog 131 #[(.agg #[(zI ipT),vtc,vtg,vtx]),(.agg #[(zI c.op),(zI c.a),(zI c.b),(zI c.num)]),zI k] w (fun e w'=>e=.returned (.bool true)∧AE w w'):=by
 refine Ap [.agg #[zI ipT,vtc,vtg,vtx],.agg #[zI c.op,zI c.a,zI c.b,zI c.num],zI k] 81 Tryz.func131 Z Z sM ?_
 have af:AE w w:=AE.refl w
 have hl_vtx:=htoT.lenL
 unfold maxLen at hl_vtx
 refine Z1 [3,3,0] Z (Bx (cs:=#[zI ipT,vtc,vtg,vtx]) Z Aa fun w1 ac am a8=>?_)
 have ag:=ac.size
 have ah:=af.trans ac
 replace a8:BX w1.heap w.heap.size [zI ipT,vtc,vtg,vtx]:=a8
 have an:=a8.lt
 refine Bx (cs:=#[zI c.op,zI c.a,zI c.b,zI c.num]) Z Aa fun w2 a9 ao a0=>?_
 have ai:=a9.size
 have a1:=ah.trans a9
 have a2:=a8.ext a9
 replace a0:BX w2.heap w1.heap.size [zI c.op,zI c.a,zI c.b,zI c.num]:=a0
 refine Ac 1 Z<|A0<|Z1 [0,2] Z<|Ak (p:=zP w1.heap.size) 0 Fd Z Z Aa<|Ah (p:=Ao (zP w1.heap.size) 0) (.inr Z) (zI c.op) AB Z (a0.ldp (i:=0) sM) Aa<|Aj<|A3<|Z1 [0,0] Z ?_
 by_cases ad:c.op=((1:Nat):Int)
 ·refine Al true Z Z (A5 ad) Aa<|Ac 1 Z<|Af Z<|Z1 [0,2,0,0,0,2,0,0,0,0,2,0,2,0,0,0,0] Z ?_
  unfold Dj at hf
  refine Ak (p:=zP w1.heap.size) 1 C4 Z Z Aa<|Ah (p:=Ao (zP w1.heap.size) 1) (.inr Z) (zI c.a) AB Z (a0.ldp (i:=1) sM) Aa ?_
  have aj:c.a=((0:Nat):Int):=oM
  refine Al true Z Z (A5 aj) Aa<|Ad 1 Z<|Ak (p:=zP w1.heap.size) 2 C5 Z Z (Ae (e:=14) Z Z Z)<|Ah (p:=Ao (zP w1.heap.size) 2) (.inr Z) (zI c.b) AB Z (a0.ldp (i:=2) sM) (Ae (e:=14) Z Z Z) ?_
  have ak:c.b=((0:Nat):Int):=oM
  refine Al true Z Z (A5 ak) (Ae (e:=14) Z Z Z)<|Ad 2 Z<|Ak (p:=zP w1.heap.size) 3 D1 Z Z (Ae (e:=19) Z Z Z)<|Ah (p:=Ao (zP w1.heap.size) 3) (.inr Z) (zI c.num) AB Z (a0.ldp (i:=3) sM) (Ae (e:=19) Z Z Z)<|Ak (p:=zP w.heap.size) 0 Ld Z Z (Ae (e:=19) Z Z Z)<|Ah (p:=Ao (zP w.heap.size) 0) (.inr Z) (zI ipT) AB Z (a2.ldp (i:=0) sM) (Ae (e:=19) Z Z Z) ?_
  refine Br (ipT-((1:Nat):Int)) Z Z (D3 sD sD) (Ae (e:=19) Z Z Z) ?_
  refine Ax 72 [] [] [zI c.num,zI ((0:Nat):Int),zI (ipT-((1:Nat):Int))] Z Z Du (Ae (e:=19) Z Z Z) (.bool (decide (((0:Nat):Int)≤c.num) && decide (c.num≤(ipT-((1:Nat):Int))))) (fun wq=>AS wq _ _ _ hc.2.2.2 oM oM) ?_
  rw[show(decide (((0:Nat):Int)≤c.num) && decide (c.num≤(ipT-((1:Nat):Int))))=true from Dy]
  exact Ac 2 Z<|A1<|AF<|Am<|Ag [6] Z (.bool true) Z ⟨G5,a1⟩
 refine Al false Z Z (A6 ad) Aa<|Ac 1 Z<|Ai Z<|Z1 [0,0] Z ?_
 by_cases ae:c.op=((2:Nat):Int)
 ·refine Al true Z Z (A5 ae) Aa<|Ac 1 Z<|Af Z<|Z1 [0,2,0,0,0,2,0,0,0,0,2,0,0,0] Z ?_
  unfold Dj at hf
  refine Ak (p:=zP w1.heap.size) 1 C4 Z Z Aa<|Ah (p:=Ao (zP w1.heap.size) 1) (.inr Z) (zI c.a) AB Z (a0.ldp (i:=1) sM) Aa ?_
  have al:c.a=((0:Nat):Int):=oM
  refine Al true Z Z (A5 al) Aa<|Ad 1 Z<|Ak (p:=zP w1.heap.size) 2 C5 Z Z (Ae (e:=32) Z Z Z)<|Ah (p:=Ao (zP w1.heap.size) 2) (.inr Z) (zI c.b) AB Z (a0.ldp (i:=2) sM) (Ae (e:=32) Z Z Z) ?_
  have aa:c.b=((0:Nat):Int):=oM
  refine Al true Z Z (A5 aa) (Ae (e:=32) Z Z Z)<|Ad 2 Z<|Ak (p:=zP w1.heap.size) 3 D1 Z Z (Ae (e:=37) Z Z Z)<|Ah (p:=Ao (zP w1.heap.size) 3) (.inr Z) (zI c.num) AB Z (a0.ldp (i:=3) sM) (Ae (e:=37) Z Z Z)<|Ax 116 [] [] [zI c.num] Z Z QN (Ae (e:=37) Z Z Z) (.bool<|GT c.num) (fun wq=>DJ wq _ hc.2.2.2) ?_
  rw[show(GT c.num)=true from Ch.2 ⟨zO,zO⟩]
  exact Ac 2 Z<|A1<|AF<|Am<|Ag [6] Z (.bool true) Z ⟨G5,a1⟩
 refine Al false Z Z (A6 ae) Aa<|Ac 1 Z<|Ai Z<|A0<|Z1 [0,0] Z ?_
 by_cases a3:c.op=((3:Nat):Int)
 ·refine Al true Z Z (A5 a3) Aa<|Ac 1 Z<|Af Z<|A2<|Af Z<|Z1 [0,2,0,0,0,0,0,2,0,0,0,0,0,0,2,0,0,0] Z ?_
  unfold Dj at hf
  refine Ak (p:=zP w1.heap.size) 1 C4 Z Z Aa<|Ah (p:=Ao (zP w1.heap.size) 1) (.inr Z) (zI c.a) AB Z (a0.ldp (i:=1) sM) Aa<|Ad 1 Z ?_
  refine Br (k-((1:Nat):Int)) Z Z (D3 sD sD) Aa ?_
  refine Ax 72 [] [] [zI c.a,zI ((0:Nat):Int),zI (k-((1:Nat):Int))] Z Z Du Aa (.bool (decide (((0:Nat):Int)≤c.a) && decide (c.a≤(k-((1:Nat):Int))))) (fun wq=>AS wq _ _ _ hc.2.1 oM oM) ?_
  rw[show(decide (((0:Nat):Int)≤c.a) && decide (c.a≤(k-((1:Nat):Int))))=true from Dy]
  refine Ad 1 Z<|Ak (p:=zP w1.heap.size) 2 C5 Z Z (Ae (e:=52) Z Z Z)<|Ah (p:=Ao (zP w1.heap.size) 2) (.inr Z) (zI c.b) AB Z (a0.ldp (i:=2) sM) (Ae (e:=52) Z Z Z)<|Ad 1 Z ?_
  refine Br (k-((1:Nat):Int)) Z Z (D3 sD sD) (Ae (e:=52) Z Z Z) ?_
  refine Ax 72 [] [] [zI c.b,zI ((0:Nat):Int),zI (k-((1:Nat):Int))] Z Z Du (Ae (e:=52) Z Z Z) (.bool (decide (((0:Nat):Int)≤c.b) && decide (c.b≤(k-((1:Nat):Int))))) (fun wq=>AS wq _ _ _ hc.2.2.1 oM oM) ?_
  rw[show(decide (((0:Nat):Int)≤c.b) && decide (c.b≤(k-((1:Nat):Int))))=true from Dy]
  exact Ad 2 Z<|Ak (p:=zP w1.heap.size) 3 D1 Z Z (Ae (e:=59) Z Z Z)<|Ah (p:=Ao (zP w1.heap.size) 3) (.inr Z) (zI c.num) AB Z (a0.ldp (i:=3) sM) (Ae (e:=59) Z Z Z)<|Al (decide (c.num=((0:Nat):Int))) Z Z Z (Ae (e:=59) Z Z Z)<|Ac 2 Z<|A1<|AF<|Am<|Ag [6] Z (.bool<|decide (c.num=((0:Nat):Int))) Z ⟨G5,a1⟩
 refine Al false Z Z (A6 a3) Aa<|Ac 1 Z<|Ai Z<|Z1 [0,0] Z ?_
 by_cases a4:c.op=((4:Nat):Int)
 ·refine Al true Z Z (A5 a4) Aa<|Ac 1 Z<|Af Z<|A2<|Af Z<|Z1 [0,2,0,0,0,0,0,2,0,0,0,0,0,0,2,0,0,0] Z ?_
  unfold Dj at hf
  refine Ak (p:=zP w1.heap.size) 1 C4 Z Z Aa<|Ah (p:=Ao (zP w1.heap.size) 1) (.inr Z) (zI c.a) AB Z (a0.ldp (i:=1) sM) Aa<|Ad 1 Z ?_
  refine Br (k-((1:Nat):Int)) Z Z (D3 sD sD) Aa ?_
  refine Ax 72 [] [] [zI c.a,zI ((0:Nat):Int),zI (k-((1:Nat):Int))] Z Z Du Aa (.bool (decide (((0:Nat):Int)≤c.a) && decide (c.a≤(k-((1:Nat):Int))))) (fun wq=>AS wq _ _ _ hc.2.1 oM oM) ?_
  rw[show(decide (((0:Nat):Int)≤c.a) && decide (c.a≤(k-((1:Nat):Int))))=true from Dy]
  refine Ad 1 Z<|Ak (p:=zP w1.heap.size) 2 C5 Z Z (Ae (e:=52) Z Z Z)<|Ah (p:=Ao (zP w1.heap.size) 2) (.inr Z) (zI c.b) AB Z (a0.ldp (i:=2) sM) (Ae (e:=52) Z Z Z)<|Ad 1 Z ?_
  refine Br (k-((1:Nat):Int)) Z Z (D3 sD sD) (Ae (e:=52) Z Z Z) ?_
  refine Ax 72 [] [] [zI c.b,zI ((0:Nat):Int),zI (k-((1:Nat):Int))] Z Z Du (Ae (e:=52) Z Z Z) (.bool (decide (((0:Nat):Int)≤c.b) && decide (c.b≤(k-((1:Nat):Int))))) (fun wq=>AS wq _ _ _ hc.2.2.1 oM oM) ?_
  rw[show(decide (((0:Nat):Int)≤c.b) && decide (c.b≤(k-((1:Nat):Int))))=true from Dy]
  exact Ad 2 Z<|Ak (p:=zP w1.heap.size) 3 D1 Z Z (Ae (e:=59) Z Z Z)<|Ah (p:=Ao (zP w1.heap.size) 3) (.inr Z) (zI c.num) AB Z (a0.ldp (i:=3) sM) (Ae (e:=59) Z Z Z)<|Al (decide (c.num=((0:Nat):Int))) Z Z Z (Ae (e:=59) Z Z Z)<|Ac 2 Z<|A1<|AF<|Am<|Ag [6] Z (.bool<|decide (c.num=((0:Nat):Int))) Z ⟨G5,a1⟩
 refine Al false Z Z (A6 a4) Aa<|Ac 1 Z<|Ai Z<|Z1 [0,0] Z ?_
 by_cases a5:c.op=((5:Nat):Int)
 ·refine Al true Z Z (A5 a5) Aa<|Ac 1 Z<|Af Z<|A2<|Af Z<|Z1 [0,2,0,0,0,0,0,2,0,0,0,0,0,0,2,0,0,0] Z ?_
  unfold Dj at hf
  refine Ak (p:=zP w1.heap.size) 1 C4 Z Z Aa<|Ah (p:=Ao (zP w1.heap.size) 1) (.inr Z) (zI c.a) AB Z (a0.ldp (i:=1) sM) Aa<|Ad 1 Z ?_
  refine Br (k-((1:Nat):Int)) Z Z (D3 sD sD) Aa ?_
  refine Ax 72 [] [] [zI c.a,zI ((0:Nat):Int),zI (k-((1:Nat):Int))] Z Z Du Aa (.bool (decide (((0:Nat):Int)≤c.a) && decide (c.a≤(k-((1:Nat):Int))))) (fun wq=>AS wq _ _ _ hc.2.1 oM oM) ?_
  rw[show(decide (((0:Nat):Int)≤c.a) && decide (c.a≤(k-((1:Nat):Int))))=true from Dy]
  refine Ad 1 Z<|Ak (p:=zP w1.heap.size) 2 C5 Z Z (Ae (e:=52) Z Z Z)<|Ah (p:=Ao (zP w1.heap.size) 2) (.inr Z) (zI c.b) AB Z (a0.ldp (i:=2) sM) (Ae (e:=52) Z Z Z)<|Ad 1 Z ?_
  refine Br (k-((1:Nat):Int)) Z Z (D3 sD sD) (Ae (e:=52) Z Z Z) ?_
  refine Ax 72 [] [] [zI c.b,zI ((0:Nat):Int),zI (k-((1:Nat):Int))] Z Z Du (Ae (e:=52) Z Z Z) (.bool (decide (((0:Nat):Int)≤c.b) && decide (c.b≤(k-((1:Nat):Int))))) (fun wq=>AS wq _ _ _ hc.2.2.1 oM oM) ?_
  rw[show(decide (((0:Nat):Int)≤c.b) && decide (c.b≤(k-((1:Nat):Int))))=true from Dy]
  exact Ad 2 Z<|Ak (p:=zP w1.heap.size) 3 D1 Z Z (Ae (e:=59) Z Z Z)<|Ah (p:=Ao (zP w1.heap.size) 3) (.inr Z) (zI c.num) AB Z (a0.ldp (i:=3) sM) (Ae (e:=59) Z Z Z)<|Al (decide (c.num=((0:Nat):Int))) Z Z Z (Ae (e:=59) Z Z Z)<|Ac 2 Z<|A1<|AF<|Am<|Ag [6] Z (.bool<|decide (c.num=((0:Nat):Int))) Z ⟨G5,a1⟩
 refine Al false Z Z (A6 a5) Aa<|Ac 1 Z<|Ai Z<|Ab _ [0,0] Z ?_
 by_cases a6:c.op=((6:Nat):Int)
 ·refine Al true Z Z (A5 a6) Aa<|Ac 1 Z<|Af Z<|Z1 [0,2,0,0,0,0,0,2,0,0,0,0,0,0,2,0,0,0] Z ?_
  unfold Dj at hf
  refine Ak (p:=zP w1.heap.size) 1 C4 Z Z Aa<|Ah (p:=Ao (zP w1.heap.size) 1) (.inr Z) (zI c.a) AB Z (a0.ldp (i:=1) sM) Aa<|Ad 1 Z ?_
  refine Br (k-((1:Nat):Int)) Z Z (D3 sD sD) Aa ?_
  refine Ax 72 [] [] [zI c.a,zI ((0:Nat):Int),zI (k-((1:Nat):Int))] Z Z Du Aa (.bool (decide (((0:Nat):Int)≤c.a) && decide (c.a≤(k-((1:Nat):Int))))) (fun wq=>AS wq _ _ _ hc.2.1 oM oM) ?_
  rw[show(decide (((0:Nat):Int)≤c.a) && decide (c.a≤(k-((1:Nat):Int))))=true from Dy]
  refine Ad 1 Z<|Ak (p:=zP w1.heap.size) 2 C5 Z Z (Ae (e:=52) Z Z Z)<|Ah (p:=Ao (zP w1.heap.size) 2) (.inr Z) (zI c.b) AB Z (a0.ldp (i:=2) sM) (Ae (e:=52) Z Z Z)<|Ad 1 Z ?_
  refine Br (k-((1:Nat):Int)) Z Z (D3 sD sD) (Ae (e:=52) Z Z Z) ?_
  refine Ax 72 [] [] [zI c.b,zI ((0:Nat):Int),zI (k-((1:Nat):Int))] Z Z Du (Ae (e:=52) Z Z Z) (.bool (decide (((0:Nat):Int)≤c.b) && decide (c.b≤(k-((1:Nat):Int))))) (fun wq=>AS wq _ _ _ hc.2.2.1 oM oM) ?_
  rw[show(decide (((0:Nat):Int)≤c.b) && decide (c.b≤(k-((1:Nat):Int))))=true from Dy]
  exact Ad 2 Z<|Ak (p:=zP w1.heap.size) 3 D1 Z Z (Ae (e:=59) Z Z Z)<|Ah (p:=Ao (zP w1.heap.size) 3) (.inr Z) (zI c.num) AB Z (a0.ldp (i:=3) sM) (Ae (e:=59) Z Z Z)<|Al (decide (c.num=((0:Nat):Int))) Z Z Z (Ae (e:=59) Z Z Z)<|Ac 2 Z<|A1<|AF<|Am<|Ag [6] Z (.bool<|decide (c.num=((0:Nat):Int))) Z ⟨G5,a1⟩
 refine Al false Z Z (A6 a6) Aa<|Ac 1 Z<|Ai Z<|Z1 [0,0] Z ?_
 by_cases a7:c.op=((7:Nat):Int)
 ·refine Al true Z Z (A5 a7) Aa<|Ac 1 Z<|Af Z<|Z1 [0,2,0,0,0,0,0,2,0,0,0,0,2,0,0,0] Z ?_
  unfold Dj at hf
  refine Ak (p:=zP w1.heap.size) 1 C4 Z Z Aa<|Ah (p:=Ao (zP w1.heap.size) 1) (.inr Z) (zI c.a) AB Z (a0.ldp (i:=1) sM) Aa<|Ad 1 Z ?_
  refine Br (k-((1:Nat):Int)) Z Z (D3 sD sD) Aa ?_
  refine Ax 72 [] [] [zI c.a,zI ((0:Nat):Int),zI (k-((1:Nat):Int))] Z Z Du Aa (.bool (decide (((0:Nat):Int)≤c.a) && decide (c.a≤(k-((1:Nat):Int))))) (fun wq=>AS wq _ _ _ hc.2.1 oM oM) ?_
  rw[show(decide (((0:Nat):Int)≤c.a) && decide (c.a≤(k-((1:Nat):Int))))=true from Dy]
  refine Ad 1 Z<|Ak (p:=zP w1.heap.size) 2 C5 Z Z (Ae (e:=71) Z Z Z)<|Ah (p:=Ao (zP w1.heap.size) 2) (.inr Z) (zI c.b) AB Z (a0.ldp (i:=2) sM) (Ae (e:=71) Z Z Z) ?_
  have ab:c.b=((0:Nat):Int):=oM
  exact Al true Z Z (A5 ab) (Ae (e:=71) Z Z Z)<|Ad 2 Z<|Ak (p:=zP w1.heap.size) 3 D1 Z Z (Ae (e:=76) Z Z Z)<|Ah (p:=Ao (zP w1.heap.size) 3) (.inr Z) (zI c.num) AB Z (a0.ldp (i:=3) sM) (Ae (e:=76) Z Z Z)<|Al (decide (c.num=((0:Nat):Int))) Z Z Z (Ae (e:=76) Z Z Z)<|Ac 2 Z<|A1<|AF<|Am<|Ag [6] Z (.bool<|decide (c.num=((0:Nat):Int))) Z ⟨G5,a1⟩
 exact Al false Z Z (A6 a7) Aa<|Ac 1 Z<|Ai Z<|A2<|Z2 Z<|A1<|Ag [6] Z (.bool false) Z ⟨G5,a1⟩
theorem EL (w:World)(a:Sr)(ipT:Int)(vtc vtg vtx:Value)(T:Tp)(oT:Sr)(_hipT:Bn ipT)(htcT:RN [] (Cx 4 Ix) w.heap vtc T.code)(htgT:RN [] (Cx 2 Iy) w.heap vtg T.grd)(htoT:RN [] (B4 rI) w.heap vtx oT)(hip:ipT=(a.length:Int))(hR:JS a T oT) :
  Calls Tryz.prog 71 #[(.agg #[(zI ipT),vtc,vtg,vtx])] w (fun e w'=>e=.returned (.bool true)∧AE w w'):=by
 refine Ap [.agg #[zI ipT,vtc,vtg,vtx]] 67 Tryz.func71 Z Z sM ?_
 have bm:AE w w:=AE.refl w
 have hl_vtx:=htoT.lenL
 unfold maxLen at hl_vtx
 have hK:=hR.k
 have hni:=hK.nb
 have hcl:=hK.cl
 have cn:=hK.gl
 have hol:=hK.ol
 have hpos:=hK.pos
 refine Z1 [3,0] Z (Bx (cs:=#[zI ipT,vtc,vtg,vtx]) Z Aa fun w1 b2 bw ab=>?_)
 have b3:=b2.size
 have bn:=bm.trans b2
 replace ab:BX w1.heap w.heap.size [zI ipT,vtc,vtg,vtx]:=ab
 refine Ac 1 Z<|A0<|Z1 [0,2,0,0,0,0,2,0,0,0,0,0,2,0,0,0,0,0,2,0,0,0,0] Z<|Ak (p:=zP w.heap.size) 0 Ld Z Z Aa<|Ah (p:=Ao (zP w.heap.size) 0) (.inr Z) (zI ipT) AB Z (ab.ldp (i:=0) sM) Aa<|Ax 72 [] [] [zI ipT,zI ((0:Nat):Int),zI ((12:Nat):Int)] Z Z Du Aa (.bool (decide (((0:Nat):Int)≤ipT) && decide (ipT≤((12:Nat):Int)))) (fun wq=>AS wq _ _ _ _hipT oM oM) ?_
 rw[show(decide (((0:Nat):Int)≤ipT) && decide (ipT≤((12:Nat):Int)))=true from Dy]
 refine Bq false Z Z Aa<|Ad 1 Z<|Ak (p:=zP w.heap.size) 1 BZ Z Z (Ae (e:=12) Z Z Z)<|Ah (p:=Ao (zP w.heap.size) 1) (.inr Z) vtc D8 Z (ab.ldp (i:=1) sM) (Ae (e:=12) Z Z Z)<|AP (v:=vtc) Id Z htcT.isSl (Ae (e:=12) Z Z Z) ?_
 have bx:¬(((3200:Nat):Int)<(T.code.length:Int)):=oM
 refine BH false Z Z (A6 bx) (Ae (e:=12) Z Z Z)<|Ad 2 Z<|Ak (p:=zP w.heap.size) 2 Le Z Z (Ae (e:=18) Z Z Z)<|Ah (p:=Ao (zP w.heap.size) 2) (.inr Z) vtg QT Z (ab.ldp (i:=2) sM) (Ae (e:=18) Z Z Z)<|AP (v:=vtg) XH Z htgT.isSl (Ae (e:=18) Z Z Z) ?_
 have bz:¬(((3200:Nat):Int)<(T.grd.length:Int)):=oM
 refine BH false Z Z (A6 bz) (Ae (e:=18) Z Z Z)<|Ad 2 Z<|Ak (p:=zP w.heap.size) 3 FR Z Z (Ae (e:=24) Z Z Z)<|Ah (p:=Ao (zP w.heap.size) 3) (.inr Z) vtx BA Z (ab.ldp (i:=3) sM) (Ae (e:=24) Z Z Z)<|AP (v:=vtx) Bm Z htoT.slL (Ae (e:=24) Z Z Z)<|Ax 72 [] [] [zI (oT.length:Int),zI ((1:Nat):Int),zI ((12:Nat):Int)] Z Z Du (Ae (e:=24) Z Z Z) (.bool (decide (((1:Nat):Int)≤(oT.length:Int)) && decide ((oT.length:Int)≤((12:Nat):Int)))) (fun wq=>AS wq _ _ _ oM oM oM) ?_
 rw[show(decide (((1:Nat):Int)≤(oT.length:Int)) && decide ((oT.length:Int)≤((12:Nat):Int)))=true from Dy]
 refine Bq false Z Z (Ae (e:=24) Z Z Z)<|Ac 1 Z<|Ai Z<|A2<|Z1 [0,2,0,3,4] Z<|Ak (p:=zP w.heap.size) 1 BZ Z Z Aa<|Ah (p:=Ao (zP w.heap.size) 1) (.inr Z) vtc D8 Z (ab.ldp (i:=1) sM) Aa<|AP (v:=vtc) Id Z htcT.isSl Aa ?_
 have ce:=ab.lt
 refine Bj (z:=zI (0:Int)) (by kernel_rfl) Aa fun w6 b0 c0 b4=>?_
 have b5:=b0.size
 have b6:=bn.trans b0
 have aq:=ab.ext b0
 replace b4:BX w6.heap w1.heap.size [zI (0:Int)]:=b4
 refine Bi (k:=0) (w:=w6) GD Z Z ⟨rfl,rfl⟩ b4 sM Aa fun w8 b1 c1 b7=>?_
 replace b7:BX w8.heap w1.heap.size [zI (T.code.length:Int)]:=b7
 have bo:AE w w8:=b1.below b6 (fun _ h=>zE h) b6.size
 have b8:w6.heap.size≤w8.heap.size:=b1.size
 have b9:=aq.chg b1 (zB ·)
 refine Aj<|A0<|Z1 [0,2,0,0] Z<|Ak (p:=zP w.heap.size) 1 BZ Z Z Aa<|Ah (p:=Ao (zP w.heap.size) 1) (.inr Z) vtc D8 Z (b9.ldp (i:=1) sM) Aa<|AP (v:=vtc) Id Z htcT.isSl Aa<|Ac 1 Z<|A3 ?_
 refine AV (S:=Nat) (fun k=>([(37,zI (k:Int)),(1,zP w.heap.size),(3,zP w1.heap.size),(35,vtc),(36,zI (T.code.length:Int))])) (fun k W=>AE w W∧BX W.heap w.heap.size [zI ipT,vtc,vtg,vtx]∧BX W.heap w1.heap.size [zI (T.code.length:Int)]∧k≤T.code.length) (fun k=>T.code.length-k) 0 ⟨rfl,rfl,rfl,rfl,rfl,trivial⟩ ⟨bo,b9,b7,oM⟩ ?_
 clear bm bw b2 b3 bn c0 b0 b5 b6 c1 b1 bo b8 b9
 rintro k ρ10 ci ⟨a8,a0,a1,ba⟩
 have ar:w.heap.size≤ci.heap.size:=a8.size
 have c2:=a0.lt
 have c3:=a1.lt
 refine Z1 [0] Z ?_
 by_cases au:(k:Int)<(T.code.length:Int)
 ·refine AC true Z Z (A5 au) Aa<|Aj<|A0<|Af Z<|A2<|A0<|A3<|Z1 [0,0,2,3,0,4] Z<|Ad 1 Z<|Az (v:=vtc) k Id DN Z Z htcT.isSl Z sD Aa ?_
  obtain⟨cs14,bb,bc⟩:=htcT.get AL Aw.zero (k:=k) sD
  obtain⟨rfl,ac⟩:=Ep bb
  refine AO (p:=Ay vtc k 4) (.inr Z) [zI<|(T.code.getD k Aw.zero).op,zI<|(T.code.getD k Aw.zero).a,zI<|(T.code.getD k Aw.zero).b,zI<|(T.code.getD k Aw.zero).num] DM Z (fun cg ak=>bc cg<|At.of_ext []<|a8.trans ak) Z Aa ?_
  have c4:=a0.lt
  have c5:=a1.lt
  refine Bj (z:=.agg #[zI 0,zI 0,zI 0,zI 0]) QV Aa fun ck ad c6 al=>?_
  have bp:=ad.size
  have av:=a8.trans ad
  have a4:=a0.ext ad
  have a5:=a1.ext ad
  replace al:BX ck.heap ci.heap.size [zI 0,zI 0,zI 0,zI 0]:=al
  refine Ad 1 Z (Bw (vs:=[zI<|(T.code.getD k Aw.zero).op,zI<|(T.code.getD k Aw.zero).a,zI<|(T.code.getD k Aw.zero).b,zI<|(T.code.getD k Aw.zero).num]) DM Z Z (by intro u hu;simp only[ze,z2,or_false]at hu;rcases hu with rfl|rfl|rfl|rfl <;> first|exact⟨rfl,rfl⟩) al Z Z Aa fun ch ae c7 am=>?_)
  replace am:BX ch.heap ci.heap.size [zI ((T.code.getD k Aw.zero).op),zI ((T.code.getD k Aw.zero).a),zI ((T.code.getD k Aw.zero).b),zI ((T.code.getD k Aw.zero).num)]:=am
  have af:AE w ch:=ae.below av (fun _ h=>zE h) av.size
  have bq:ck.heap.size≤ch.heap.size:=ae.size
  have aw:=a4.chg ae (zB ·)
  have bd:=a5.chg ae (zB ·)
  refine Aj<|Z1 [2,2,0,3,0] Z<|AO (p:=zP w.heap.size) (.inr Z) [zI ipT,vtc,vtg,vtx] Cz Z (fun cg ak=>LD.of_box<|BX.ext (w:=ch) aw ak) Z Aa<|AO (p:=zP ci.heap.size) (.inr Z) [zI<|(T.code.getD k Aw.zero).op,zI<|(T.code.getD k Aw.zero).a,zI<|(T.code.getD k Aw.zero).b,zI<|(T.code.getD k Aw.zero).num] DM Z (fun cg ak=>LD.of_box<|BX.ext (w:=ch) am ak) Z Aa<|Ad 1 Z ?_
  refine Au 131 [] [] [.agg #[zI ipT,vtc,vtg,vtx],.agg #[zI<|(T.code.getD k Aw.zero).op,zI<|(T.code.getD k Aw.zero).a,zI<|(T.code.getD k Aw.zero).b,zI<|(T.code.getD k Aw.zero).num],zI (k:Int)] Z Z Xb Aa (Gv _ a.length (ipT) vtc vtg vtx (T) (oT) (⟨(T.code.getD k Aw.zero).op,(T.code.getD k Aw.zero).a,(T.code.getD k Aw.zero).b,(T.code.getD k Aw.zero).num⟩:Aw) _ _hipT (htcT.ext (An AL) af) (htgT.ext (An AT) af) (htoT.ext g1 af) ⟨ac.1,ac.2.1,ac.2.2.1,ac.2.2.2⟩ oM oM oM (by have h9:=hK.form k oM;rw[Int.toNat_natCast];exact h9)) ?_
  rintro co cp ⟨rfl,a9⟩
  refine⟨_,rfl,a9,?_⟩
  have br:=a9.size
  have be:=af.trans a9
  have ag:=aw.ext a9
  have ah:=bd.ext a9
  exact Bq false Z Z Aa<|Aj<|Ai Z<|A2<|Ab _ [0,0] Z<|AM ((k+1:Nat):Int) Z Z (Ba oM sD) Aa<|Ac 1 Z ⟨k+1,_,rfl,zR,⟨be,ag,ah,oM⟩,zD⟩
 refine AC false Z Z (A6 au) Aa<|Aj<|A0<|Ai Z<|A4<|Av<|Av<|Aq<|A0<|Z1 [0,2,0,0] Z<|Ak (p:=zP w.heap.size) 2 Le Z Z Aa<|Ah (p:=Ao (zP w.heap.size) 2) (.inr Z) vtg QT Z (a0.ldp (i:=2) sM) Aa<|AP (v:=vtg) XH Z htgT.isSl Aa<|Ac 1 Z<|A3 ?_
 refine AV (S:=Nat) (fun j=>([(51,zI (j:Int)),(1,zP w.heap.size),(3,zP w1.heap.size),(49,vtg),(50,zI (T.grd.length:Int))])) (fun j W=>AE w W∧BX W.heap w.heap.size [zI ipT,vtc,vtg,vtx]∧BX W.heap w1.heap.size [zI (T.code.length:Int)]∧j≤T.grd.length) (fun j=>T.grd.length-j) 0 ⟨rfl,rfl,rfl,rfl,rfl,trivial⟩ ⟨a8,a0,a1,oM⟩ ?_
 clear a1 a0 a8 ar
 rintro j ρ22 cf ⟨aa,a2,a3,bf⟩
 have bs:w.heap.size≤cf.heap.size:=aa.size
 have c8:=a2.lt
 have c9:=a3.lt
 refine Z1 [0] Z ?_
 by_cases ax:(j:Int)<(T.grd.length:Int)
 ·refine AC true Z Z (A5 ax) Aa<|Aj<|A0<|Af Z<|A2<|A0<|A3<|Z1 [0,2,3,4] Z<|Az (v:=vtg) j XH Nc Z Z htgT.isSl Z sD Aa ?_
  obtain⟨cs26,bg,bh⟩:=htgT.get AT GU.zero (k:=j) sD
  obtain⟨rfl,bi⟩:=UK bg
  refine AO (p:=Ay vtg j 2) (.inr Z) [zI<|(T.grd.getD j GU.zero).reg,.bool<|(T.grd.getD j GU.zero).z] QW Z (fun cg ak=>bh cg<|At.of_ext []<|aa.trans ak) Z Aa ?_
  have ca:=a2.lt
  have cb:=a3.lt
  refine Bj (z:=.agg #[zI 0,.bool false]) XJ Aa fun cm ai cc an=>?_
  have bt:=ai.size
  have ay:=aa.trans ai
  have a6:=a2.ext ai
  have a7:=a3.ext ai
  replace an:BX cm.heap cf.heap.size [zI 0,.bool false]:=an
  refine Bw (vs:=[zI<|(T.grd.getD j GU.zero).reg,.bool<|(T.grd.getD j GU.zero).z]) QW Z Z (by intro u hu;simp only[ze,z2,or_false]at hu;rcases hu with rfl|rfl <;> first|exact⟨rfl,rfl⟩) an Z Z Aa fun cj aj cd ao=>?_
  replace ao:BX cj.heap cf.heap.size [zI ((T.grd.getD j GU.zero).reg),.bool ((T.grd.getD j GU.zero).z)]:=ao
  have bj:AE w cj:=aj.below ay (fun _ h=>zE h) ay.size
  have bu:cm.heap.size≤cj.heap.size:=aj.size
  have bk:=a6.chg aj (zB ·)
  have az:=a7.chg aj (zB ·)
  refine Aj<|Z1 [0,2,2,0,0,0] Z ?_
  have hgj:=hK.gd j oM
  refine Ak (p:=zP cf.heap.size) 0 SM Z Z Aa<|Ah (p:=Ao (zP cf.heap.size) 0) (.inr Z) (zI<|(T.grd.getD j GU.zero).reg) AB Z (ao.ldp (i:=0) sM) Aa<|Ah (p:=zP w1.heap.size) (.inr Z) (zI (T.code.length:Int)) AB Z (az.ld (k:=0) sM) Aa ?_
  refine Br ((T.code.length:Int)-((1:Nat):Int)) Z Z (D3 sD sD) Aa ?_
  refine Ax 72 [] [] [zI<|(T.grd.getD j GU.zero).reg,zI ((0:Nat):Int),zI ((T.code.length:Int)-((1:Nat):Int))] Z Z Du Aa (.bool (decide (((0:Nat):Int)≤((T.grd.getD j GU.zero).reg)) && decide (((T.grd.getD j GU.zero).reg)≤((T.code.length:Int)-((1:Nat):Int))))) (fun wq=>AS wq _ _ _ bi oM oM) ?_
  rw[show(decide (((0:Nat):Int)≤((T.grd.getD j GU.zero).reg)) && decide (((T.grd.getD j GU.zero).reg)≤((T.code.length:Int)-((1:Nat):Int))))=true from Dy]
  exact Bq false Z Z Aa<|Aj<|Ai Z<|A2<|Ab _ [0,0] Z<|AM ((j+1:Nat):Int) Z Z (Ba oM sD) Aa<|Ac 1 Z ⟨j+1,_,rfl,zR,⟨bj,bk,az,oM⟩,zD⟩
 refine AC false Z Z (A6 ax) Aa<|Aj<|A0<|Ai Z<|A4<|Av<|Av<|Aq<|Z1 [0,2,0,3,0,0] Z<|Ak (p:=zP w.heap.size) 3 FR Z Z Aa<|Ah (p:=Ao (zP w.heap.size) 3) (.inr Z) vtx BA Z (a2.ldp (i:=3) sM) Aa<|KJ [] [zP w1.heap.size] Z Z Aa ?_
 refine Au 114 [] [] [vtx,.func (.func 132) #[] #[zP w1.heap.size]] Z Z Tt Aa (BW _ _ _ 132 [] [zP w1.heap.size] (fun x=>!(decide (0≤x) && decide (x≤(T.code.length:Int)-1))) (htoT.ext g1 aa).rd Xc fun x hx wz hw=>Hf wz x w1.heap.size (T.code.length:Int) hx ((BX.ext (w:=cf) a3 hw).ld (k:=0) sM) oM oM) ?_
 rintro cq cr ⟨rfl,ap⟩
 refine⟨_,rfl,ap,?_⟩
 have bv:=ap.size
 have bl:=aa.trans ap
 rw[show(oT.any (fun x=>!(decide (0≤x) && decide (x≤(T.code.length:Int)-1))))=false from hK.any]
 exact Bq true Z Z Aa<|Ac 1 Z<|A1<|Ag [2] Z (.bool true) Z ⟨rfl,bl⟩
theorem HW (w:World)(a:Sr)(ipT:Int)(vtc vtg vtx:Value)(T:Tp)(oT:Sr)(vl:Value)(L:List (Sr))(_hipT:Bn ipT)(htcT:RN [] (Cx 4 Ix) w.heap vtc T.code)(htgT:RN [] (Cx 2 Iy) w.heap vtg T.grd)(htoT:RN [] (B4 rI) w.heap vtx oT)(hL:RN [] (B4 (B4 rI)) w.heap vl L)(hqL:CD vl)(hip:ipT=(a.length:Int))(hR:JS a T oT)(hLL:∀k,k<L.length→(L.getD k []).length=a.length∧B9 (L.getD k [])=true) :
  Calls Tryz.prog 122 #[(.agg #[(zI ipT),vtc,vtg,vtx]),vl] w (fun e w'=>e=.returned (zI 0)∧AE w w'):=by
 refine Ap [.agg #[zI ipT,vtc,vtg,vtx],vl] 22 Tryz.func122 Z Z sM ?_
 have ac:AE w w:=AE.refl w
 have hl_vtx:=htoT.lenL
 unfold maxLen at hl_vtx
 have ap:=hL.lenL
 unfold maxLen at ap
 refine Z1 [3,0] Z (Bx (cs:=#[zI ipT,vtc,vtg,vtx]) Z Aa fun w1 a8 ai a6=>?_)
 have a9:=a8.size
 have a2:=ac.trans a8
 replace a6:BX w1.heap w.heap.size [zI ipT,vtc,vtg,vtx]:=a6
 refine Ac 1 Z<|A0<|Z1 [2,3,0] Z<|AO (p:=zP w.heap.size) (.inr Z) [zI ipT,vtc,vtg,vtx] Cz Z (fun aq aj=>LD.of_box<|BX.ext (w:=w1) a6 aj) Z Aa<|Au 71 [] [] [.agg #[zI ipT,vtc,vtg,vtx]] Z Z X1 Aa (EL _ a (ipT) vtc vtg vtx (T) (oT) _hipT (htcT.ext (An AL) a2) (htgT.ext (An AT) a2) (htoT.ext g1 a2) oM hR) ?_
 rintro e2 w2 ⟨rfl,a3⟩
 refine⟨_,rfl,a3,?_⟩
 have aa:=a3.size
 have ad:=a2.trans a3
 have a4:=a6.ext a3
 refine Bq false Z Z Aa<|Aj<|Ai Z<|A2<|A0<|Z1 [0,0,0] Z<|Ad 1 Z<|AP (v:=vl) Bo Z hL.slL Aa<|Ac 1 Z<|A3<|AV (S:=Nat) (fun k=>([(12,zI (k:Int)),(2,zP w.heap.size),(10,vl),(11,zI (L.length:Int))])) (fun k W=>AE w W∧BX W.heap w.heap.size [zI ipT,vtc,vtg,vtx]∧k≤L.length) (fun k=>L.length-k) 0 ⟨rfl,rfl,rfl,rfl,trivial⟩ ⟨ad,a4,oM⟩ ?_
 clear ac ai a8 a9 a2 a3 aa ad
 rintro k ρ3 w3 ⟨a5,a0,ae⟩
 have ak:w.heap.size≤w3.heap.size:=a5.size
 have ao:=a0.lt
 refine Z1 [0] Z ?_
 by_cases af:(k:Int)<(L.length:Int)
 ·refine AC true Z Z (A5 af) Aa<|Aj<|A0<|Af Z<|A2<|A0<|A3<|Z1 [0,2,0] Z<|Az (v:=vl) k Bo Bs Z Z hL.slL Z sD Aa ?_
  obtain⟨ag,al,ah⟩:=RN.getL (w:=w) g1 [] (k:=k) hL sD
  have ab:=ah.lenL
  unfold maxLen at ab
  refine Ah (p:=Ay vl k 1) (.inr Z) ag BA Z (al _<|At.of_ext [] a5) Aa<|Ac 1 Z<|Z1 [0,0,2,3,0] Z ?_
  have hLk:=hLL k oM
  refine Ad 1 Z<|Ak (p:=zP w.heap.size) 0 Ld Z Z Aa<|Ah (p:=Ao (zP w.heap.size) 0) (.inr Z) (zI ipT) AB Z (a0.ldp (i:=0) sM) Aa<|Au 53 [] [] [ag,zI ipT] Z Z UY Aa (Df _ _ _ _ (ah.ext g1 a5).rd _hipT) ?_
  rintro e7 w7 ⟨rfl,a7⟩
  refine⟨_,rfl,a7,?_⟩
  have am:=a7.size
  have an:=a5.trans a7
  have a1:=a0.ext a7
  rw[show(decide ((((L.getD k []).length:Nat):Int)=ipT) && B9 (L.getD k []))=true from(by rw[A5 oM,hLk.2];rfl)]
  exact Bq false Z Z Aa<|Aj<|Ai Z<|A2<|Ab _ [0,0] Z<|AM ((k+1:Nat):Int) Z Z (Ba oM sD) Aa<|Ac 1 Z ⟨k+1,_,rfl,zR,⟨an,a1,oM⟩,zD⟩
 exact AC false Z Z (A6 af) Aa<|Aj<|A0<|Ai Z<|A4<|Av<|Av<|Aq<|Z2 Z<|A1<|Ag [4] Z (zI ((0:Nat):Int)) Z ⟨rfl,a5⟩
theorem Lt (w:World)(va:Value)(a:Sr)(vd:Value)(d:Sr)(ha:Rd (B4 rI) w.heap va a)(hd:Rd (B4 rI) w.heap vd d)(hl:d.length=a.length)(hla:a.length≤1000) :
  Calls Tryz.prog 127 #[va,vd] w (fun e w'=>∃v0:Value,e=.returned (v0)∧AE w w'∧Fr (B8 (B8 rI 2) 27) w.heap.size w'.heap.size w'.heap v0 (I1 a d 2)):=by
 refine Ap [va,vd] 27 Tryz.func127 Z Z sM ?_
 have a9:AE w w:=AE.refl w
 have au:=ha.lenle
 have av:=hd.lenle
 refine Z2 Z<|Z1 [3,0] Z (CH (B8 rI 2) o1 Bo Bs Aa fun v1 w1 a4 af aa=>?_)
 have a5:=a4.size
 have ab:=a9.trans a4
 refine Ac 1 Z<|A0<|Z1 [0,0,0] Z<|Ad 1 Z<|AP (v:=va) Bm Z ha.isSl Aa<|Ac 1 Z<|A3 ?_
 refine AV (S:=Nat×Value) (fun⟨k,vo⟩=>([(5,vo),(11,zI (k:Int)),(1,vd),(9,va),(10,zI (a.length:Int))])) (fun⟨k,vo⟩ W=>AE w W∧Fr (B8 (B8 rI 2) 27) w.heap.size W.heap.size W.heap vo ((I1 a d 2).take k)∧k≤a.length) (fun⟨k,vo⟩=>a.length-k) (0,v1) ⟨rfl,rfl,rfl,rfl,rfl,trivial⟩ ⟨ab,aa.up o2,sD⟩ ?_
 clear a9 aa af a4 a5 ab
 rintro⟨k,vo⟩ ρ2 w2 ⟨a3,a2,ac⟩
 have ag:w.heap.size≤w2.heap.size:=a3.size
 refine Z1 [0] Z ?_
 by_cases ad:(k:Int)<(a.length:Int)
 ·refine AC true Z Z (A5 ad) Aa<|Aj<|A0<|Af Z<|A2<|A0<|A3<|Z1 [0,0,2,0,0] Z<|Ad 1 Z<|Az (v:=va) k Bm BC Z Z ha.isSl Z sD Aa ?_
  refine Ah (p:=Ay va k 1) (.inr Z) (zI<|a.getD k 0) AB Z (Bb a3 (ha.getI sD).1) Aa<|Ac 2 Z<|Ab _ [0,0,0,0,0,2,3,3,4,0] Z<|Ad 4 Z ?_
  refine Az (v:=vd) k Bm BC Z Z hd.isSl Z sD Aa ?_
  refine Ah (p:=Ay vd k 1) (.inr Z) (zI<|d.getD k 0) AB Z (Bb a3 (hd.getI sD).1) Aa ?_
  refine Qo (ys:=[a.getD k 0,d.getD k 0]) AI Bm BC Z Z Z Z (Th (ha.getI sD).2 (hd.getI sD).2) Aa fun v4 w4 a6 aq ah=>?_
  have ai:=a6.size
  have aj:=a3.trans a6
  have a0:=a2.ext (o2) a6
  refine BI (u:=v4) (B:=w2.heap.size) o1 Bo Bs Z Z ah (by first|exact A7 _|omega) Aa fun v5 w5 a7 ar ak=>?_
  have al:=a7.size
  have a8:=aj.trans a7
  have a1:=a0.ext (o2) a7
  refine KM o1 (v:=vo) (a:=v5) Bo Bs Z Z Z a1 a8.size ak oM a3.size sD (by unfold maxLen;first|omega|assumption|(simp;done)|(simp;omega)) Aa fun v6 w6 F6 ae am an=>?_
  have ao:AE w w6:=ae.below a8 (fun c hc=>A8 (A7 _) (am c hc).1) a8.size
  have ap:w5.heap.size≤w6.heap.size:=ae.size
  refine Ac 1 Z<|Ab _ [0,0] Z<|AM ((k+1:Nat):Int) Z Z (Ba oM sD) Aa<|Ac 1 Z ?_
  exact⟨(k+1,v6),_,rfl,zR,⟨ao,(by rw[D6 [] (by simp;omega),Sw oM];exact an.up o2),sD⟩,zD⟩
 exact AC false Z Z (A6 ad) Aa<|Aj<|A0<|Ai Z<|A4<|Av<|Av<|Aq<|Z1 [0,0] Z<|Ac 2 Z<|A1<|Ag [4] Z vo Z ⟨vo,rfl,a3,(by have h:=a2.up o2;rwa [za (by simp;omega)]at h)⟩
theorem JO (w:World)(ipT:Int)(vtc vtg vtx:Value)(T:Tp)(oT:Sr)(va:Value)(a:Sr)(vw:Value)(ws:Sr)(vd:Value)(d:Sr)(_hipT:Bn ipT)(htcT:RN [] (Cx 4 Ix) w.heap vtc T.code)(htgT:RN [] (Cx 2 Iy) w.heap vtg T.grd)(htoT:RN [] (B4 rI) w.heap vtx oT)(ha:Rd (B4 rI) w.heap va a)(hws:Rd (B4 rI) w.heap vw ws)(hd:Rd (B4 rI) w.heap vd d)(hip:ipT=(a.length:Int))(hR:JS a T oT)(hw:ws.length=oT.length∧B9 ws=true)(hdd:d.length=a.length∧B9 d=true) :
  Calls Tryz.prog 126 #[(.agg #[(zI ipT),vtc,vtg,vtx]),va,vw,vd] w (fun e w'=>e=.returned (zI 0)∧AE w w'):=by
 refine Ap [.agg #[zI ipT,vtc,vtg,vtx],va,vw,vd] 26 Tryz.func126 Z Z sM ?_
 have ab:AE w w:=AE.refl w
 have hl_vtx:=htoT.lenL
 unfold maxLen at hl_vtx
 have ah:=ha.lenle
 have an:=hws.lenle
 have ao:=hd.lenle
 have hK:=hR.k
 have hni:=hK.nb
 have hcl:=hK.cl
 have ap:=hK.gl
 have hol:=hK.ol
 have hpos:=hK.pos
 refine Z1 [3,0] Z (Bx (cs:=#[zI ipT,vtc,vtg,vtx]) Z Aa fun w1 a8 al a3=>?_)
 have ac:=a8.size
 have a6:=ab.trans a8
 replace a3:BX w1.heap w.heap.size [zI ipT,vtc,vtg,vtx]:=a3
 refine Ac 1 Z<|Z1 [2,0,0,3,3,0] Z<|AO (p:=zP w.heap.size) (.inr Z) [zI ipT,vtc,vtg,vtx] Cz Z (fun aq ad=>LD.of_box<|BX.ext (w:=w1) a3 ad) Z Aa<|Ad 2 Z (Sx (x0:=a) (x1:=d) Bo Bs Z Z Z (RN.of<|ha.ext g1 a6) (RN.of<|hd.ext g1 a6) Aa fun v2 w2 a7 am a9 ae=>?_)
 have af:=a7.size
 have a4:=a6.trans a7
 have a0:=a3.ext a7
 refine Au 122 [] [] [.agg #[zI ipT,vtc,vtg,vtx],v2] Z Z Tv Aa (HW _ a (ipT) vtc vtg vtx (T) (oT) v2 ([a,d]) _hipT (htcT.ext (An AL) a4) (htgT.ext (An AT) a4) (htoT.ext g1 a4) a9 ae oM hR (by intro k hk;match k,hk with|0,_=>exact⟨rfl,hR.n⟩|1,_=>exact hdd)) ?_
 rintro e3 w3 ⟨rfl,a1⟩
 refine⟨_,rfl,a1,?_⟩
 have ag:=a1.size
 have aa:=a4.trans a1
 have a2:=a0.ext a1
 refine Ac 1 Z<|A0<|Z1 [0,0,0,0,0,2,0,3,0,0] Z<|Ad 1 Z ?_
 have ai:0=((0:Nat):Int):=rfl
 refine Al true Z Z (A5 ai) Aa<|Ad 2 Z<|Ak (p:=zP w.heap.size) 3 FR Z Z (Ae (e:=17) Z Z Z)<|Ah (p:=Ao (zP w.heap.size) 3) (.inr Z) vtx BA Z (a2.ldp (i:=3) sM) (Ae (e:=17) Z Z Z)<|AP (v:=vtx) Bm Z htoT.slL (Ae (e:=17) Z Z Z)<|Au 53 [] [] [vw,zI (oT.length:Int)] Z Z UY (Ae (e:=17) Z Z Z) (Df _ _ _ _ (hws.ext g1 aa) oM) ?_
 rintro e6 w6 ⟨rfl,a5⟩
 refine⟨_,rfl,a5,?_⟩
 have aj:=a5.size
 have ak:=aa.trans a5
 rw[show(decide ((ws.length:Int)=(oT.length:Int)) && B9 ws)=true from(by rw[A5 oM,hw.2];rfl)]
 exact Bq false Z Z (Ae (e:=17) Z Z Z)<|Ac 1 Z<|Ai Z<|A2<|Z1 [0,0] Z<|Ac 2 Z<|A1<|Ag [8] Z (zI 0) Z ⟨rfl,ak⟩
theorem HX (w:World)(ipT:Int)(vtc vtg vtx:Value)(T:Tp)(oT:Sr)(va:Value)(a:Sr)(vw:Value)(ws:Sr)(vd:Value)(d:Sr)(_hipT:Bn ipT)(htcT:RN [] (Cx 4 Ix) w.heap vtc T.code)(htgT:RN [] (Cx 2 Iy) w.heap vtg T.grd)(htoT:RN [] (B4 rI) w.heap vtx oT)(ha:Rd (B4 rI) w.heap va a)(hws:Rd (B4 rI) w.heap vw ws)(hd:Rd (B4 rI) w.heap vd d)(hip:ipT=(a.length:Int))(hR:JS a T oT)(hw:ws.length=oT.length∧B9 ws=true)(hdd:d.length=a.length∧B9 d=true) :
  Calls Tryz.prog 66 #[(.agg #[(zI ipT),vtc,vtg,vtx]),va,vw,vd] w (fun e w'=>∃v0:Value,e=.returned (.tuple #[v0,zI 0])∧AE w w'∧RN [] (B4 (B4 rI)) w'.heap v0 (FP T.code (Bz 2 (I1 a d 2) T.code) oT ws)∧CD v0):=by
 refine Ap [.agg #[zI ipT,vtc,vtg,vtx],va,vw,vd] 36 Tryz.func66 Z Z sM ?_
 have ak:AE w w:=AE.refl w
 have hl_vtx:=htoT.lenL
 unfold maxLen at hl_vtx
 have ay:=ha.lenle
 have az:=hws.lenle
 have b0:=hd.lenle
 have hK:=hR.k
 have hni:=hK.nb
 have hcl:=hK.cl
 have b2:=hK.gl
 have hol:=hK.ol
 have hpos:=hK.pos
 refine Z1 [3,0,0] Z (Bx (cs:=#[zI ipT,vtc,vtg,vtx]) Z Aa fun w1 aj ax ab=>?_)
 have al:=aj.size
 have a3:=ak.trans aj
 replace ab:BX w1.heap w.heap.size [zI ipT,vtc,vtg,vtx]:=ab
 refine Ac 2 Z<|A0<|Z1 [2,0,0,0,3,0] Z<|AO (p:=zP w.heap.size) (.inr Z) [zI ipT,vtc,vtg,vtx] Cz Z (fun b1 a5=>LD.of_box<|BX.ext (w:=w1) ab a5) Z Aa<|Ad 3 Z<|Au 126 [] [] [.agg #[zI ipT,vtc,vtg,vtx],va,vw,vd] Z Z X8 Aa (JO _ (ipT) vtc vtg vtx (T) (oT) _ _ _ _ _ _ _hipT (htcT.ext (An AL) a3) (htgT.ext (An AT) a3) (htoT.ext g1 a3) (ha.ext g1 a3) (hws.ext g1 a3) (hd.ext g1 a3) oM hR hw hdd) ?_
 rintro e2 w2 ⟨rfl,ac⟩
 refine⟨_,rfl,ac,?_⟩
 have am:=ac.size
 have ag:=a3.trans ac
 have a2:=ab.ext ac
 refine Ac 1 Z<|Z1 [0,0] Z<|Ad 1 Z ?_
 have an:¬(0≠((0:Nat):Int)):=(fun h9=>h9 Z)
 refine B5 false Z Z (A6 an) Aa<|Aj<|Ai Z<|A2<|A0<|AW _ [1,0,0,3,3,0,0,0,0,0] mixed (by kernel_rfl)<|AO (p:=zP w.heap.size) (.inl Z) [zI ipT,vtc,vtg,vtx] Cz Z (fun b1 a5=>LD.of_box<|BX.ext (w:=w2.drew) a2 a5) Z Aa<|Ad 2 Z<|Au 127 [] [] [va,vd] Z Z X9 Aa (Lt _ _ _ _ _ (ha.ext g1 ag.drew) (hd.ext g1 ag.drew) oM oM) ?_
 rintro e4 w4 ⟨a6,rfl,a4,a0⟩
 refine⟨_,rfl,a4,?_⟩
 replace a4:=a4.of_drew
 have ao:=a4.size
 have ad:=ag.trans a4
 have a7:=a2.ext a4
 replace a0:=a0.low (B':=w2.heap.size)<|A7 _
 refine Au 123 [] [] [.agg #[zI ipT,vtc,vtg,vtx],a6,zI ((1:Nat):Int)] Z Z Tw Aa (Dp _ (ipT) vtc vtg vtx (T) (oT) a6 (I1 a d 2) ((1:Nat):Int) _hipT (htcT.ext (An AL) ad) (htgT.ext (An AT) ad) (htoT.ext g1 ad) (RN.of_fr2 a0 fun b hb=>absurd hb z2) a0.cap oM oM (by exact O3 hR.n hdd.2) (by intro k hk;rw[DQ];exact hR.k.form k hk) oM) ?_
 rintro e5 w5 ⟨v5,c5,rfl,ae,a8,ah⟩
 refine⟨_,rfl,ae,?_⟩
 have ap:=ae.size
 have a9:=ad.trans ae
 have aa:=a7.ext ae
 have aq:c5=0∨c5=6:=by unfold MW at a8;omega
 have hcz:c5=0:=by rcases a8 with h9|h9;exact h9.1;exact absurd (hR.nz hdd.2) h9.2
 obtain⟨a1,hrvc⟩:=ah hcz
 replace a1:RN [] (B4 (B4 rI)) w5.heap v5 (Bz 2 (I1 a d 2) T.code):=a1
 refine Ad 1 Z<|AR (vs:=[v5,zI c5]) v5 Z Z Aa<|AR (vs:=[v5,zI c5]) (zI c5) Z Z Aa<|Ac 2 Z<|A0<|Z1 [0,0] Z<|Ad 1 Z ?_
 have ar:¬(c5≠((0:Nat):Int)):=(fun h9=>h9 hcz)
 refine B5 false Z Z (A6 ar) Aa<|Aj<|Ai Z<|A2<|Z1 [2,0,0,3,0,0] Z<|AO (p:=zP w.heap.size) (.inr Z) [zI ipT,vtc,vtg,vtx] Cz Z (fun b1 a5=>LD.of_box<|BX.ext (w:=w5) aa a5) Z Aa<|Ad 2 Z<|Au 128 [] [] [.agg #[zI ipT,vtc,vtg,vtx],v5,vw] Z Z Xa Aa (G3 _ 2 a.length [] (ipT) vtc vtg vtx (T) (oT) v5 (Bz 2 (I1 a d 2) T.code) vw (ws) (fun b hb=>absurd hb z2) _hipT (htcT.ext (An AL) a9) (htgT.ext (An AT) a9) (htoT.ext g1 a9) a1 hrvc (hws.ext g1 a9) oM (by exact hR.reg hdd.2) (by rw[BD]) oM oM hR.k.out hw.2 hR.k.form) ?_
 rintro e7 w7 ⟨v7,rfl,af,au,ai⟩
 refine⟨_,rfl,af,?_⟩
 have av:=af.size
 have aw:=a9.trans af
 exact Ac 2 Z<|A1<|Ag [8,9] Z (.tuple #[v7,zI ((0:Nat):Int)]) Z ⟨_,rfl,aw,au,ai⟩
theorem Hg (w:World)(ipT:Int)(vtc vtg vtx:Value)(T:Tp)(oT:Sr)(va:Value)(a:Sr)(vw:Value)(ws:Sr)(_hipT:Bn ipT)(htcT:RN [] (Cx 4 Ix) w.heap vtc T.code)(htgT:RN [] (Cx 2 Iy) w.heap vtg T.grd)(htoT:RN [] (B4 rI) w.heap vtx oT)(ha:Rd (B4 rI) w.heap va a)(hws:Rd (B4 rI) w.heap vw ws)(hip:ipT=(a.length:Int))(hR:JS a T oT)(hw:ws.length=oT.length∧B9 ws=true) :
  Calls Tryz.prog 16 #[(.agg #[(zI ipT),vtc,vtg,vtx]),va,vw] w (fun e w'=>∃v0:Value,e=.returned (.tuple #[v0,zI 0])∧AE w w'∧Fr (B8 rI 2) w.heap.size w'.heap.size w'.heap v0 (Dl (Tk 2 T oT ws (I1 a a 2)))):=by
 refine Ap [.agg #[zI ipT,vtc,vtg,vtx],va,vw] 25 Tryz.func16 Z Z sM ?_
 have af:AE w w:=AE.refl w
 have hl_vtx:=htoT.lenL
 unfold maxLen at hl_vtx
 have al:=ha.lenle
 have ap:=hws.lenle
 have hK:=hR.k
 have hni:=hK.nb
 have hcl:=hK.cl
 have ar:=hK.gl
 have hol:=hK.ol
 have hpos:=hK.pos
 refine Z1 [3,0,0] Z (Bx (cs:=#[zI ipT,vtc,vtg,vtx]) Z Aa fun w1 ab ao a5=>?_)
 have ag:=ab.size
 have a0:=af.trans ab
 replace a5:BX w1.heap w.heap.size [zI ipT,vtc,vtg,vtx]:=a5
 refine Ac 2 Z<|Z1 [2,0,0,0,3,0,0,0,0,0] Z<|AO (p:=zP w.heap.size) (.inr Z) [zI ipT,vtc,vtg,vtx] Cz Z (fun aq a9=>LD.of_box<|BX.ext (w:=w1) a5 a9) Z Aa<|Ad 3 Z<|Au 66 [] [] [.agg #[zI ipT,vtc,vtg,vtx],va,vw,va] Z Z X0 Aa (HX _ (ipT) vtc vtg vtx (T) (oT) va (a) vw (ws) va (a) _hipT (htcT.ext (An AL) a0) (htgT.ext (An AT) a0) (htoT.ext g1 a0) (ha.ext g1 a0) (hws.ext g1 a0) (ha.ext g1 a0) oM hR hw (by exact⟨rfl,hR.n⟩)) ?_
 rintro e2 w2 ⟨v2,rfl,a6,ac,aa⟩
 refine⟨_,rfl,a6,?_⟩
 have ah:=a6.size
 have a7:=a0.trans a6
 have a1:=a5.ext a6
 refine Ad 1 Z<|AR (vs:=[v2,zI 0]) v2 Z Z Aa<|AR (vs:=[v2,zI 0]) (zI 0) Z Z Aa<|Ac 2 Z<|A0<|Z1 [0,0] Z<|Ad 1 Z ?_
 have ai:¬(0≠((0:Nat):Int)):=(fun h9=>h9 Z)
 refine B5 false Z Z (A6 ai) Aa<|Aj<|Ai Z<|A2<|Z1 [2,0,3,3,0,0] Z<|AO (p:=zP w.heap.size) (.inr Z) [zI ipT,vtc,vtg,vtx] Cz Z (fun aq a9=>LD.of_box<|BX.ext (w:=w2) a1 a9) Z Aa<|Ad 1 Z<|Au 68 [] [] [.agg #[zI ipT,vtc,vtg,vtx],v2] Z Z YL Aa (G4 _ 2 a.length [] (ipT) vtc vtg vtx (T) (oT) v2 (FP T.code (Bz 2 (I1 a a 2) T.code) oT ws) (fun b hb=>absurd hb z2) _hipT (htcT.ext (An AL) a7) (htgT.ext (An AT) a7) (htoT.ext g1 a7) ac aa oM oM (by exact hR.adj hR.n) (by rw[HP,BD];omega) oM hR.k.form) ?_
 rintro e4 w4 ⟨v4,rfl,a8,ad,aj⟩
 refine⟨_,rfl,a8,?_⟩
 have ak:=a8.size
 have ae:=a7.trans a8
 refine Au 67 [] [] [v4] Z Z V0 Aa (Es _ _ _ (ad).rd (by rw[Oc];omega) (by intro k hk;have h9:=((Sq hR.k.form:CB 2 (Ro a.length 2 T.code<|FP T.code (Bz 2 (I1 a a 2) T.code) oT ws)) k hk).1;omega)) ?_
 rintro e6 w6 ⟨a2,rfl,a3,a4⟩
 refine⟨_,rfl,a3,?_⟩
 have am:=a3.size
 have an:=ae.trans a3
 exact Ac 2 Z<|A1<|Ag [6,7] Z (.tuple #[a2,zI ((0:Nat):Int)]) Z ⟨a2,rfl,an,(by first|(unfold Dl Tk;rw[DQ];exact(a4.up o1).low ae.size)|(exfalso;omega))⟩
theorem HY (w:World)(ipT:Int)(vtc vtg vtx:Value)(T:Tp)(oT:Sr)(va:Value)(a:Sr)(vw:Value)(ws:Sr)(_hipT:Bn ipT)(htcT:RN [] (Cx 4 Ix) w.heap vtc T.code)(htgT:RN [] (Cx 2 Iy) w.heap vtg T.grd)(htoT:RN [] (B4 rI) w.heap vtx oT)(ha:Rd (B4 rI) w.heap va a)(hws:Rd (B4 rI) w.heap vw ws)(hip:ipT=(a.length:Int))(hR:JS a T oT)(hw:ws.length=oT.length∧B9 ws=true) :
  Calls Tryz.prog 18 #[(.agg #[(zI ipT),vtc,vtg,vtx]),va,vw] w (fun e w'=>∃v0:Value,e=.returned (.tuple #[v0,zI 0])∧AE w w'∧Fr (B8 rI 2) w.heap.size w'.heap.size w'.heap v0 (Dl (FP T.code (Bz 2 (I1 a a 2) T.code) oT ws))):=by
 refine Ap [.agg #[zI ipT,vtc,vtg,vtx],va,vw] 23 Tryz.func18 Z Z sM ?_
 have a9:AE w w:=AE.refl w
 have hl_vtx:=htoT.lenL
 unfold maxLen at hl_vtx
 have ai:=ha.lenle
 have aj:=hws.lenle
 have hK:=hR.k
 have hni:=hK.nb
 have hcl:=hK.cl
 have ak:=hK.gl
 have hol:=hK.ol
 have hpos:=hK.pos
 refine Z1 [3,0,0] Z (Bx (cs:=#[zI ipT,vtc,vtg,vtx]) Z Aa fun w1 a6 ah a4=>?_)
 have aa:=a6.size
 have a0:=a9.trans a6
 replace a4:BX w1.heap w.heap.size [zI ipT,vtc,vtg,vtx]:=a4
 refine Ac 2 Z<|Z1 [2,0,0,0,3,0,0,0,0,0] Z<|AO (p:=zP w.heap.size) (.inr Z) [zI ipT,vtc,vtg,vtx] Cz Z (fun al ab=>LD.of_box<|BX.ext (w:=w1) a4 ab) Z Aa<|Ad 3 Z<|Au 66 [] [] [.agg #[zI ipT,vtc,vtg,vtx],va,vw,va] Z Z X0 Aa (HX _ (ipT) vtc vtg vtx (T) (oT) va (a) vw (ws) va (a) _hipT (htcT.ext (An AL) a0) (htgT.ext (An AT) a0) (htoT.ext g1 a0) (ha.ext g1 a0) (hws.ext g1 a0) (ha.ext g1 a0) oM hR hw (by exact⟨rfl,hR.n⟩)) ?_
 rintro e2 w2 ⟨v2,rfl,a5,a7,ac⟩
 refine⟨_,rfl,a5,?_⟩
 have ad:=a5.size
 have a8:=a0.trans a5
 refine Ad 1 Z<|AR (vs:=[v2,zI 0]) v2 Z Z Aa<|AR (vs:=[v2,zI 0]) (zI 0) Z Z Aa<|Ac 2 Z<|A0<|Z1 [0,0] Z<|Ad 1 Z ?_
 have ae:¬(0≠((0:Nat):Int)):=(fun h9=>h9 Z)
 refine B5 false Z Z (A6 ae) Aa<|Aj<|Ai Z<|A2<|Z1 [0,3,0,0] Z<|Ad 1 Z<|Au 67 [] [] [v2] Z Z V0 Aa (Es _ _ _ (a7).rd (by rw[HP,BD];omega) (by intro k hk;have h9:=((hR.adj hR.n:CB 2 (FP T.code (Bz 2 (I1 a a 2) T.code) oT ws)) k hk).1;omega)) ?_
 rintro e4 w4 ⟨a1,rfl,a3,a2⟩
 refine⟨_,rfl,a3,?_⟩
 have af:=a3.size
 have ag:=a8.trans a3
 exact Ac 2 Z<|A1<|Ag [6,7] Z (.tuple #[a1,zI ((0:Nat):Int)]) Z ⟨a1,rfl,ag,(by first|exact(a2.up o1).low a8.size|(exfalso;omega))⟩
theorem TW {p:Prop}(h:p:=by first|(rw[hrx];done)|(rw[hrx];rfl)|(rw[← L8 ‹MW _ _ _ _›])):p:=h
theorem Hh (w:World)(a:Sr)(ipT:Int)(vtc vtg vtx:Value)(T:Tp)(oT:Sr)(vd:Value)(d:Sr)(_hipT:Bn ipT)(htcT:RN [] (Cx 4 Ix) w.heap vtc T.code)(htgT:RN [] (Cx 2 Iy) w.heap vtg T.grd)(htoT:RN [] (B4 rI) w.heap vtx oT)(hd:Rd (B4 rI) w.heap vd d)(hip:ipT=(a.length:Int))(hR:JS a T oT)(hdd:d.length=a.length∧B9 d=true) :
    Calls Tryz.prog 62 #[(.agg #[(zI ipT),vtc,vtg,vtx]),vd] w (fun e w'=>∃v0:Value,e=.returned (.tuple #[v0,zI (GA d T.code)])∧AE w w'∧Fr (B8 rI 2) w.heap.size w'.heap.size w'.heap v0 (Vh d T.code)):=by
  refine Ap [.agg #[zI ipT,vtc,vtg,vtx],vd] 28 Tryz.func62 Z Z sM ?_
  have an:AE w w:=AE.refl w
  have hl_vtx:=htoT.lenL
  unfold maxLen at hl_vtx
  have b3:=hd.lenle
  have hK:=hR.k
  have hni:=hK.nb
  have hcl:=hK.cl
  have b5:=hK.gl
  have hol:=hK.ol
  have hpos:=hK.pos
  refine Z1 [3,0,0] Z (Bx (cs:=#[zI ipT,vtc,vtg,vtx]) Z Aa fun w1 aj b0 aa=>?_)
  have ao:=aj.size
  have ap:=an.trans aj
  replace aa:BX w1.heap w.heap.size [zI ipT,vtc,vtg,vtx]:=aa
  refine Ac 2 Z<|A0<|Z1 [2,0,3,3,0] Z<|AO (p:=zP w.heap.size) (.inr Z) [zI ipT,vtc,vtg,vtx] Cz Z (fun b4 af=>LD.of_box<|BX.ext (w:=w1) aa af) Z Aa<|Ad 1 Z (BI (u:=vd) (B:=w1.heap.size) BB Bo Bs Z Z (Nu w1.heap.size w1.heap.size _<|(RN.of hd).one1 g1) (A7 _) Aa fun v2 w2 ag b1 ak=>?_)
  have aq:=ag.size
  have a3:=ap.trans ag
  have a4:=aa.ext ag
  refine Au 122 [] [] [.agg #[zI ipT,vtc,vtg,vtx],v2] Z Z Tv Aa (HW _ a (ipT) vtc vtg vtx (T) (oT) v2 ([d]) _hipT (htcT.ext (An AL) a3) (htgT.ext (An AT) a3) (htoT.ext g1 a3) (RN.ofOne ak ((RN.of hd).ext g1 a3) fun b hb=>by cases hb) (Sj ak) oM hR (by intro k hk;match k,hk with|0,_=>exact hdd)) ?_
  rintro e3 w3 ⟨rfl,ab⟩
  refine⟨_,rfl,ab,?_⟩
  have ar:=ab.size
  have al:=a3.trans ab
  have a5:=a4.ext ab
  refine Ac 1 Z<|Z1 [0,0] Z<|Ad 1 Z ?_
  have au:¬(0≠((0:Nat):Int)):=(fun h9=>h9 Z)
  refine B5 false Z Z (A6 au) Aa<|Aj<|Ai Z<|A2<|A0<|AW _ [1,0,3,3,0,0,0,0,0] mixed (by kernel_rfl)<|AO (p:=zP w.heap.size) (.inl Z) [zI ipT,vtc,vtg,vtx] Cz Z (fun b4 af=>LD.of_box<|BX.ext (w:=w3.drew) a5 af) Z Aa<|Ad 1 Z<|Au 124 [] [] [vd] Z Z X7 Aa (Jw _ _ _ (hd.ext g1 al.drew) oM) ?_
  rintro e5 w5 ⟨a6,rfl,a7,a0⟩
  refine⟨_,rfl,a7,?_⟩
  replace a7:=a7.of_drew
  have av:=a7.size
  have ac:=al.trans a7
  replace a0:=a0.low (B':=w3.heap.size)<|A7 _
  refine Au 123 [] [] [.agg #[zI ipT,vtc,vtg,vtx],a6,zI ((0:Nat):Int)] Z Z Tw Aa (Dp _ (ipT) vtc vtg vtx (T) (oT) a6 (D9 d) ((0:Nat):Int) _hipT (htcT.ext (An AL) ac) (htgT.ext (An AT) ac) (htoT.ext g1 ac) (RN.of_fr2 a0 fun b hb=>absurd hb z2) a0.cap oM oM (by exact ED hdd.2) (by intro k hk;rw[LS,hdd.1];exact hR.k.form k hk) oM) ?_
  rintro e6 w6 ⟨v6,c6,rfl,ah,a8,ai⟩
  refine⟨_,rfl,ah,?_⟩
  have aw:=ah.size
  have ad:=ac.trans ah
  have ax:c6=0∨c6=6:=by unfold MW at a8;omega
  refine Ad 1 Z<|AR (vs:=[v6,zI c6]) v6 Z Z Aa<|AR (vs:=[v6,zI c6]) (zI c6) Z Z Aa<|Ac 2 Z<|A0<|Z1 [0,0] Z<|Ad 1 Z ?_
  by_cases am:c6≠((0:Nat):Int)
  ·
    exact B5 true Z Z (A5 am) Aa<|Aj<|Af Z<|Z1 [0,0,0] Z<|Ac 3 Z<|A1<|Am<|Ag [4,5] Z (.tuple #[zN,zI c6]) Z ⟨zN,TW,ad,(by first|(rw[Ma hrx];exact IZ _ _ _)|(rw[Tl (by rw[← L8 ‹MW _ _ _ _›];omega)];exact IZ _ _ _))⟩
  refine B5 false Z Z (A6 am) Aa<|Aj<|Ai Z<|A2<|Z1 [0,3,0,0] Z ?_
  have hcz:c6=0:=by omega
  have hrx:GA d T.code=0:=by rw[← L8 a8];exact hcz
  obtain⟨a1,hrvc⟩:=ai hcz
  replace a1:RN [] (B4 (B4 rI)) w6.heap v6 (Bz 1 (D9 d) T.code):=a1
  refine Ad 1 Z<|Au 67 [] [] [v6] Z Z V0 Aa (Es _ _ _ (a1).rd (by rw[BD];omega) (by intro k hk;have h9:=((OX (ED hdd.2) (by intro q hq;rw[LS,hdd.1];exact hR.k.form q hq):CB 1 _) k hk).1;omega)) ?_
  rintro e8 w8 ⟨a9,rfl,ae,a2⟩
  refine⟨_,rfl,ae,?_⟩
  have ay:=ae.size
  have az:=ad.trans ae
  have b2:=a1.ext g2 ae
  exact Ac 2 Z<|A1<|Ag [4,5] Z (.tuple #[a9,zI ((0:Nat):Int)]) Z ⟨a9,TW,az,(by first|(rw[Ma hrx];exact(a2.up o1).low ad.size)|(rw[Tl (by rw[← L8 ‹MW _ _ _ _›];omega)];exact(a2.up o1).low ad.size))⟩
theorem G6 (w:World)(vl:Value)(L:Sr)(vp:Value)(ps:Sr)(hL:Rd (B4 rI) w.heap vl L)(hps:Rd (B4 rI) w.heap vp ps)(hp:∀k,k<ps.length→0≤ps.getD k 0∧ps.getD k 0<(L.length:Int))(hpl:ps.length≤1000000) :
    Calls Tryz.prog 63 #[vl,vp] w (fun e w'=>∃v0:Value,e=.returned (v0)∧AE w w'∧Fr (B8 rI 2) w.heap.size w'.heap.size w'.heap v0 (UT L ps)):=by
  refine Ap [vl,vp] 24 Tryz.func63 Z Z sM ?_
  have a8:AE w w:=AE.refl w
  have ao:=hL.lenle
  have ap:=hps.lenle
  refine Z2 Z<|Z1 [3,0] Z (CH (rI) AI Bm BC Aa fun v1 w1 a3 af a9=>?_)
  have a4:=a3.size
  have aa:=a8.trans a3
  refine Ac 1 Z<|A0<|Z1 [0,0,0] Z<|Ad 1 Z<|AP (v:=vp) Bm Z hps.isSl Aa<|Ac 1 Z<|A3 ?_
  refine AV (S:=Nat×Value) (fun⟨k,vo⟩=>([(5,vo),(11,zI (k:Int)),(0,vl),(9,vp),(10,zI (ps.length:Int))])) (fun⟨k,vo⟩ W=>AE w W∧Fr (B8 rI 2) w.heap.size W.heap.size W.heap vo ((ps.take k).map fun q=>L.getD q.toNat 0)∧k≤ps.length) (fun⟨k,vo⟩=>ps.length-k) (0,v1) ⟨rfl,rfl,rfl,rfl,rfl,trivial⟩ ⟨aa,a9.up o1,sD⟩ ?_
  clear a8 a9 af a3 a4 aa
  rintro⟨k,vo⟩ ρ2 w2 ⟨a2,a1,ab⟩
  have ag:w.heap.size≤w2.heap.size:=a2.size
  refine Z1 [0] Z ?_
  by_cases ac:(k:Int)<(ps.length:Int)
  ·
    refine AC true Z Z (A5 ac) Aa<|Aj<|A0<|Af Z<|A2<|A0<|A3<|Z1 [0,2,0] Z ?_
    have hpk:=hp k oM
    refine Az (v:=vp) k Bm BC Z Z hps.isSl Z sD Aa ?_
    refine Ah (p:=Ay vp k 1) (.inr Z) (zI<|ps.getD k 0) AB Z (Bb a2 (hps.getI sD).1) Aa<|Ac 1 Z<|Ab _ [0,0,0,0,2,3,4,0] Z ?_
    have ah:=hp k oM
    refine Ad 3 Z<|Az (v:=vl) ((ps.getD k 0).toNat) Bm BC Z Z hL.isSl oM sD Aa ?_
    refine Ah (p:=Ay vl ((ps.getD k 0).toNat) 1) (.inr Z) (zI<|L.getD ((ps.getD k 0).toNat) 0) AB Z (Bb a2 (hL.getI sD).1) Aa ?_
    refine BI (u:=zI<|L.getD ((ps.getD k 0).toNat) 0) (B:=w2.heap.size) AI Bm BC Z Z (KL w2.heap.size w2.heap.size _ _ (hL.getI sD).2) (A7 _) Aa fun v4 w4 a5 am ad=>?_
    have ai:=a5.size
    have a6:=a2.trans a5
    have a0:=a1.ext (o1) a5
    refine El (v:=vo) (a:=v4) Bm BC Z Z Z a0 a6.size ad.rd1 sD (by unfold maxLen;first|omega|assumption|(simp only[zb,z9,z4,z6,z5];omega)|(simp[zb,z9,z4,z6,z5];done)|(simp[zb,z9,z4,z6,z5];omega)) Aa fun v5 w5 F5 a7 ae aj=>?_
    have ak:AE w w5:=a7.below a6 (fun c hc=>A8 (A7 _) (ae c hc).1) a6.size
    have al:w4.heap.size≤w5.heap.size:=a7.size
    have an:=ad.chg (o1) a7 fun c hc=>zH<|ae c hc
    refine Ac 1 Z<|Ab _ [0,0] Z<|AM ((k+1:Nat):Int) Z Z (Ba oM sD) Aa<|Ac 1 Z ?_
    exact⟨(k+1,v5),_,rfl,zR,⟨ak,(by rw[E1 0 oM];exact aj.up o1),sD⟩,zD⟩
  exact AC false Z Z (A6 ac) Aa<|Aj<|A0<|Ai Z<|A4<|Av<|Av<|Aq<|Z1 [0,0] Z<|Ac 2 Z<|A1<|Ag [4] Z vo Z ⟨vo,rfl,a2,(by have h:=a1.up o1;rwa [za oM]at h)⟩
theorem G7 (w:World)(a:Sr)(ipT:Int)(vtc vtg vtx:Value)(T:Tp)(oT:Sr)(vd:Value)(d:Sr)(_hipT:Bn ipT)(htcT:RN [] (Cx 4 Ix) w.heap vtc T.code)(htgT:RN [] (Cx 2 Iy) w.heap vtg T.grd)(htoT:RN [] (B4 rI) w.heap vtx oT)(hd:Rd (B4 rI) w.heap vd d)(hip:ipT=(a.length:Int))(hR:JS a T oT)(hdd:d.length=a.length∧B9 d=true) :
    Calls Tryz.prog 14 #[(.agg #[(zI ipT),vtc,vtg,vtx]),vd] w (fun e w'=>∃v0:Value,e=.returned (.tuple #[v0,zI (GA d T.code)])∧AE w w'∧Fr (B8 rI 2) w.heap.size w'.heap.size w'.heap v0 (QE d T.code oT)):=by
  refine Ap [.agg #[zI ipT,vtc,vtg,vtx],vd] 21 Tryz.func14 Z Z sM ?_
  have ac:AE w w:=AE.refl w
  have hl_vtx:=htoT.lenL
  unfold maxLen at hl_vtx
  have aj:=hd.lenle
  have hK:=hR.k
  have hni:=hK.nb
  have hcl:=hK.cl
  have ak:=hK.gl
  have hol:=hK.ol
  have hpos:=hK.pos
  refine Z1 [3,0,0] Z (Bx (cs:=#[zI ipT,vtc,vtg,vtx]) Z Aa fun w1 aa ai a7=>?_)
  have ad:=aa.size
  have a2:=ac.trans aa
  replace a7:BX w1.heap w.heap.size [zI ipT,vtc,vtg,vtx]:=a7
  refine Ac 2 Z<|Z1 [2,0,3,0,0,0,0,0] Z<|AO (p:=zP w.heap.size) (.inr Z) [zI ipT,vtc,vtg,vtx] Cz Z (fun al ae=>LD.of_box<|BX.ext (w:=w1) a7 ae) Z Aa<|Ad 1 Z<|Au 62 [] [] [.agg #[zI ipT,vtc,vtg,vtx],vd] Z Z YJ Aa (Hh _ a (ipT) vtc vtg vtx (T) (oT) _ _ _hipT (htcT.ext (An AL) a2) (htgT.ext (An AT) a2) (htoT.ext g1 a2) (hd.ext g1 a2) oM hR hdd) ?_
  rintro e2 w2 ⟨a0,rfl,a8,a3⟩
  refine⟨_,rfl,a8,?_⟩
  have af:=a8.size
  have a4:=a2.trans a8
  have a5:=a7.ext a8
  refine Ad 1 Z<|AR (vs:=[a0,zI<|GA d T.code]) a0 Z Z Aa<|AR (vs:=[a0,zI<|GA d T.code]) (zI<|GA d T.code) Z Z Aa<|Ac 2 Z<|A0<|Z1 [0,0] Z<|Ad 1 Z ?_
  by_cases ab:GA d T.code≠((0:Nat):Int)
  ·
    exact B5 true Z Z (A5 ab) Aa<|Aj<|Af Z<|Z1 [0,0,0] Z<|Ac 3 Z<|A1<|Am<|Ag [4,5] Z (.tuple #[zN,zI<|GA d T.code]) Z ⟨zN,(by first|rfl|(rw[show GA d T.code=0 by omega];rfl)),a4,(by first|(rw[Mb oM];exact IZ _ _ _)|(rw[Tm oM];exact IZ _ _ _))⟩
  refine B5 false Z Z (A6 ab) Aa<|Aj<|Ai Z<|A2<|Z1 [0,0,2,3,0,0] Z<|Ad 1 Z<|Ak (p:=zP w.heap.size) 3 FR Z Z Aa<|Ah (p:=Ao (zP w.heap.size) 3) (.inr Z) vtx BA Z (a5.ldp (i:=3) sM) Aa<|Au 63 [] [] [a0,vtx] Z Z YK Aa (G6 _ _ _ _ _ a3.rd1 (htoT.ext g1 a4).rd (by intro q hq;rw[SD oM];exact hR.k.out q hq) oM) ?_
  rintro e4 w4 ⟨a6,rfl,a9,a1⟩
  refine⟨_,rfl,a9,?_⟩
  have ag:=a9.size
  have ah:=a4.trans a9
  exact Ac 2 Z<|A1<|Ag [4,5] Z (.tuple #[a6,zI ((0:Nat):Int)]) Z ⟨a6,(by first|rfl|(rw[show GA d T.code=0 by omega];rfl)),ah,(by first|(rw[Mb oM];exact(a1.up o1).low a4.size)|(rw[Tm oM];exact(a1.up o1).low a4.size))⟩
theorem FC (w:World)(c:Aw)(hc:OO c)  :
    Calls Tryz.prog 133 #[(.agg #[(zI c.op),(zI c.a),(zI c.b),(zI c.num)])] w (fun e w'=>∃v0:Value,e=.returned (v0)∧AE w w'∧Fr (B8 rI 2) w.heap.size w'.heap.size w'.heap v0 (Bv c)):=by
  refine Ap [.agg #[zI c.op,zI c.a,zI c.b,zI c.num]] 19 Tryz.func133 Z Z sM ?_
  have a9:AE w w:=AE.refl w
  refine Z1 [3,0] Z (Bx (cs:=#[zI c.op,zI c.a,zI c.b,zI c.num]) Z Aa fun w1 a4 af a1=>?_)
  have aa:=a4.size
  have a0:=a9.trans a4
  replace a1:BX w1.heap w.heap.size [zI c.op,zI c.a,zI c.b,zI c.num]:=a1
  refine Ac 1 Z<|A0<|A3<|Z1 [0,2,0,0] Z<|Ak (p:=zP w.heap.size) 0 Fd Z Z Aa<|Ah (p:=Ao (zP w.heap.size) 0) (.inr Z) (zI c.op) AB Z (a1.ldp (i:=0) sM) Aa<|Ax 72 [] [] [zI c.op,zI ((3:Nat):Int),zI ((6:Nat):Int)] Z Z Du Aa (.bool (decide (((3:Nat):Int)≤c.op) && decide (c.op≤((6:Nat):Int)))) (fun wq=>AS wq _ _ _ hc.1 oM oM)<|Ac 1 Z ?_
  cases a5:(decide (((3:Nat):Int)≤c.op) && decide (c.op≤((6:Nat):Int)))
  ·
    refine Ai (by first|rfl|exact zW a5)<|Z1 [0,2,0,0] Z<|Ak (p:=zP w.heap.size) 0 Fd Z Z Aa<|Ah (p:=Ao (zP w.heap.size) 0) (.inr Z) (zI c.op) AB Z (a1.ldp (i:=0) sM) Aa ?_
    by_cases a6:c.op=((7:Nat):Int)
    ·
      refine Al true Z Z (A5 a6) Aa<|Ac 1 Z<|Af Z<|Z1 [0,2,3,0] Z<|Ak (p:=zP w.heap.size) 1 C4 Z Z Aa<|Ah (p:=Ao (zP w.heap.size) 1) (.inr Z) (zI c.a) AB Z (a1.ldp (i:=1) sM) Aa (BI (u:=zI c.a) (B:=w1.heap.size) AI Bm BC Z Z (KL w1.heap.size w1.heap.size _ _ hc.2.1) (A7 _) Aa fun v5 w5 a7 ag a2=>?_)
      have ab:=a7.size
      have ac:=a0.trans a7
      exact Ac 1 Z<|A1<|AF<|Am<|Ag [2] Z v5 Z ⟨v5,rfl,ac,(by first|exact N1 (by assumption) ((a2.up o1).low a0.size)|exact N3 (by assumption) (by assumption) ((a2.up o1).low a0.size)|exact N4 (by assumption) (by assumption) ((a2.up o1).low a0.size))⟩
    exact Al false Z Z (A6 a6) Aa<|Ac 1 Z<|Ai Z<|A2<|Z2 Z<|A1<|Ag [2] Z zN Z ⟨zN,rfl,a0,(by first|exact N1 (by assumption) (IZ _ _ _)|exact N3 (by assumption) (by assumption) (IZ _ _ _)|exact N4 (by assumption) (by assumption) (IZ _ _ _))⟩
  refine Af (by first|rfl|exact zW a5)<|Z1 [0,2,0,2,3,0] Z<|Ak (p:=zP w.heap.size) 1 C4 Z Z Aa<|Ah (p:=Ao (zP w.heap.size) 1) (.inr Z) (zI c.a) AB Z (a1.ldp (i:=1) sM) Aa<|Ak (p:=zP w.heap.size) 2 C5 Z Z Aa<|Ah (p:=Ao (zP w.heap.size) 2) (.inr Z) (zI c.b) AB Z (a1.ldp (i:=2) sM) Aa (Qo (ys:=[c.a,c.b]) AI Bm BC Z Z Z Z (Th hc.2.1 hc.2.2.1) Aa fun v6 w6 a8 ah a3=>?_)
  have ad:=a8.size
  have ae:=a0.trans a8
  exact Ac 1 Z<|A1<|AF<|Am<|Ag [2] Z v6 Z ⟨v6,rfl,ae,(by first|exact N1 (by assumption) ((a3.up o1).low a0.size)|exact N3 (by assumption) (by assumption) ((a3.up o1).low a0.size)|exact N4 (by assumption) (by assumption) ((a3.up o1).low a0.size))⟩
theorem Hi (w:World)(a:Sr)(ipT:Int)(vtc vtg vtx:Value)(T:Tp)(oT:Sr)(vr:Value)(rs:Sr)(_hipT:Bn ipT)(htcT:RN [] (Cx 4 Ix) w.heap vtc T.code)(htgT:RN [] (Cx 2 Iy) w.heap vtg T.grd)(htoT:RN [] (B4 rI) w.heap vtx oT)(hrs:Rd (B4 rI) w.heap vr rs)(hip:ipT=(a.length:Int))(hR:JS a T oT)(hrng:∀k,k<rs.length→0≤rs.getD k 0∧rs.getD k 0<(T.code.length:Int)) :
    Calls Tryz.prog 73 #[(.agg #[(zI ipT),vtc,vtg,vtx]),vr] w (fun e w'=>∃v0:Value,e=.returned v0∧AE w w'∧Fr (B8 rB 4) w.heap.size w'.heap.size w'.heap v0 (Fz T.code rs)):=by
  refine Ap [.agg #[zI ipT,vtc,vtg,vtx],vr] 59 Tryz.func73 Z Z sM ?_
  have b8:AE w w:=AE.refl w
  have hl_vtx:=htoT.lenL
  unfold maxLen at hl_vtx
  have cd:=hrs.lenle
  have hK:=hR.k
  have hni:=hK.nb
  have hcl:=hK.cl
  have cg:=hK.gl
  have hol:=hK.ol
  have hpos:=hK.pos
  refine Z1 [3,0] Z (Bx (cs:=#[zI ipT,vtc,vtg,vtx]) Z Aa fun w1 au bk ap=>?_)
  have bl:=au.size
  have bm:=b8.trans au
  replace ap:BX w1.heap w.heap.size [zI ipT,vtc,vtg,vtx]:=ap
  refine Ac 1 Z<|Z1 [0,2,0,3,0] Z<|Ak (p:=zP w.heap.size) 1 BZ Z Z Aa<|Ah (p:=Ao (zP w.heap.size) 1) (.inr Z) vtc D8 Z (ap.ldp (i:=1) sM) Aa<|AP (v:=vtc) Id Z htcT.isSl Aa (SB (n:=T.code.length) Mn V3 Z Z Z sD Aa fun v2 w2 aq bn b9=>?_)
  have bo:=aq.size
  have bp:=bm.trans aq
  have ak:=ap.ext aq
  refine Ac 1 Z<|A0<|Z1 [0,0,0] Z<|Ad 1 Z<|AP (v:=vr) Bm Z hrs.isSl Aa<|Ac 1 Z<|A3 ?_
  refine AV (S:=Nat) (fun k=>([(17,zI (k:Int)),(2,zP w.heap.size),(5,v2),(15,vr),(16,zI (rs.length:Int))])) (fun k W=>AE w W∧Fr (B8 rB 4) w1.heap.size w2.heap.size W.heap v2 (Mw T.code.length<|rs.take k)∧BX W.heap w.heap.size [zI ipT,vtc,vtg,vtx]∧k≤rs.length∧w.heap.size<w1.heap.size∧w2.heap.size≤W.heap.size∧w1.heap.size≤W.heap.size) (fun k=>rs.length-k) 0 ⟨rfl,rfl,rfl,rfl,rfl,trivial⟩ ⟨bp,b9,ak,sD,oM,oM,oM⟩ ?_
  clear b8 bk au b9 bn aq
  rintro k ρ3 w3 ⟨aj,a7,a4,ba,bq,br,bs⟩
  have av:w.heap.size≤w3.heap.size:=aj.size
  have c9:=a4.lt
  refine Z1 [0] Z ?_
  by_cases bb:(k:Int)<(rs.length:Int)
  ·
    refine AC true Z Z (A5 bb) Aa<|Aj<|A0<|Af Z<|A2<|A0<|A3<|Z1 [0,2,0] Z<|Az (v:=vr) k Bm BC Z Z hrs.isSl Z sD Aa ?_
    refine Ah (p:=Ay vr k 1) (.inr Z) (zI<|rs.getD k 0) AB Z (Bb aj (hrs.getI sD).1) Aa<|Ac 1 Z<|Ab _ [0,0,0,4] Z ?_
    have hrk:=hrng k oM
    have hnl:=Gk T.code.length<|rs.take k
    refine Ad 2 Z<|Az (v:=v2) ((rs.getD k 0).toNat) Mn V3 Z Z a7.isSl oM sD Aa ?_
    refine N0 (v:=v2) (w:=w3) YQ Z Z a7 sD Aa fun w7 F7 aw ca bc bt=>?_
    have bu:w3.heap.size≤w7.heap.size:=aw.size
    have bv:AE w w7:=aw.below aj (fun c hc=>zH<|bc _ hc) aj.size
    have bw:=a4.chg aw fun hm=>zH<|bc _ hm
    refine Aj<|Ab _ [0,0] Z<|AM ((k+1:Nat):Int) Z Z (Ba oM sD) Aa<|Ac 1 Z ?_
    exact⟨k+1,_,rfl,zR,⟨bv,(by rw[QF oM];exact bt),bw,sD,oM,oM,oM⟩,zD⟩
  refine AC false Z Z (A6 bb) Aa<|Aj<|A0<|Ai Z<|A4<|Av<|Av<|Aq<|A0<|Z1 [0,2,0,0,0] Z<|Ak (p:=zP w.heap.size) 1 BZ Z Z Aa<|Ah (p:=Ao (zP w.heap.size) 1) (.inr Z) vtc D8 Z (a4.ldp (i:=1) sM) Aa<|AP (v:=vtc) Id Z htcT.isSl Aa ?_
  refine Br ((T.code.length:Int)-((1:Nat):Int)) Z Z (D3 sD sD) Aa<|Ac 1 Z<|A3 ?_
  refine AV (S:=Nat×Int) (fun⟨j,kk⟩=>([(8,zI kk),(2,zP w.heap.size),(5,v2)])) (fun⟨j,kk⟩ W=>AE w W∧Fr (B8 rB 4) w1.heap.size w2.heap.size W.heap v2 (KB T.code (Mw T.code.length rs) j)∧BX W.heap w.heap.size [zI ipT,vtc,vtg,vtx]∧j≤T.code.length∧kk=(T.code.length:Int)-1-(j:Int)∧w.heap.size<w1.heap.size∧w2.heap.size≤W.heap.size∧w1.heap.size≤W.heap.size) (fun⟨j,kk⟩=>T.code.length-j) (0,(T.code.length:Int)-1) ⟨rfl,rfl,rfl,trivial⟩ ⟨aj,(by have h:=a7;rwa [za oM]at h),a4,oM,oM,oM,oM,oM⟩ ?_
  clear a4 a7 aj av
  rintro⟨j,kk⟩ ρ9 w9 ⟨ar,ab,a8,bd,hkk,bx,bz,be⟩
  have c0:w.heap.size≤w9.heap.size:=ar.size
  have c1:=a8.lt
  refine A0<|Z1 [0,0] Z<|Ad 1 Z ?_
  by_cases al:((0:Nat):Int)≤kk
  ·
    refine D5 true Z Z (A5 al) Aa<|Aj<|Af Z<|A2<|A0<|A3<|Z1 [0,2,0,0,2,3,0,0] Z ?_
    have hnl:=HR T.code (Mw T.code.length rs) j
    have hns:=Gk T.code.length rs
    refine Ak (p:=zP w.heap.size) 1 BZ Z Z Aa<|Ah (p:=Ao (zP w.heap.size) 1) (.inr Z) vtc D8 Z (a8.ldp (i:=1) sM) Aa<|Ad 1 Z<|Az (v:=vtc) ((kk).toNat) Id DN Z Z htcT.isSl oM sD Aa ?_
    obtain⟨cs13,ax,ay⟩:=htcT.get AL Aw.zero (k:=(kk).toNat) sD
    obtain⟨rfl,ad⟩:=Ep ax
    refine AO (p:=Ay vtc ((kk).toNat) 4) (.inr Z) [zI<|(T.code.getD ((kk).toNat) Aw.zero).op,zI<|(T.code.getD ((kk).toNat) Aw.zero).a,zI<|(T.code.getD ((kk).toNat) Aw.zero).b,zI<|(T.code.getD ((kk).toNat) Aw.zero).num] DM Z (fun ch c2=>ay ch<|At.of_ext []<|ar.trans c2) Z Aa<|Au 133 [] [] [.agg #[zI<|(T.code.getD ((kk).toNat) Aw.zero).op,zI<|(T.code.getD ((kk).toNat) Aw.zero).a,zI<|(T.code.getD ((kk).toNat) Aw.zero).b,zI<|(T.code.getD ((kk).toNat) Aw.zero).num]] Z Z Xd Aa (FC _ (⟨(T.code.getD ((kk).toNat) Aw.zero).op,(T.code.getD ((kk).toNat) Aw.zero).a,(T.code.getD ((kk).toNat) Aw.zero).b,(T.code.getD ((kk).toNat) Aw.zero).num⟩:Aw) ⟨ad.1,ad.2.1,ad.2.2.1,ad.2.2.2⟩) ?_
    rintro ci cc ⟨a1,rfl,a9,ac⟩
    refine⟨_,rfl,a9,?_⟩
    have bf:=a9.size
    have az:=ar.trans a9
    have a5:=ab.ext (oB) a9
    have a6:=a8.ext a9
    have ag:Fr (B8 rI 2) w9.heap.size cc.heap.size cc.heap a1 (Bv (T.code.getD (kk).toNat Aw.zero)):=ac
    refine AP (v:=a1) Bm Z ag.isSl Aa<|Ac 1 Z<|A3 ?_
    refine AV (S:=Nat) (fun i=>([(40,zI (i:Int)),(2,zP w.heap.size),(5,v2),(8,zI kk),(38,a1),(39,zI (((Bv<|T.code.getD (kk).toNat Aw.zero).length:Nat):Int))])) (fun i W=>AE w W∧Fr (B8 rB 4) w1.heap.size w2.heap.size W.heap v2 (JT (kk).toNat (KB T.code (Mw T.code.length rs) j)<|(Bv<|T.code.getD (kk).toNat Aw.zero).take i)∧Fr (B8 rI 2) w9.heap.size cc.heap.size W.heap a1 (Bv<|T.code.getD (kk).toNat Aw.zero)∧BX W.heap w.heap.size [zI ipT,vtc,vtg,vtx]∧i≤(Bv<|T.code.getD (kk).toNat Aw.zero).length∧w.heap.size<w1.heap.size∧w2.heap.size≤W.heap.size∧(0≤kk∧j<T.code.length)∧w1.heap.size≤W.heap.size) (fun i=>(Bv<|T.code.getD (kk).toNat Aw.zero).length-i) 0 ⟨rfl,rfl,rfl,rfl,rfl,rfl,trivial⟩ ⟨az,a5,ag,a6,sD,oM,oM,oM,oM⟩ ?_
    clear a8 ab ac a9 a5 a6
    rintro i ρ16 cb ⟨aa,a0,a2,a3,b0,c3,c4,hkj,bg⟩
    have bh:w.heap.size≤cb.heap.size:=aa.size
    have c5:=a3.lt
    refine Z1 [0] Z ?_
    by_cases am:(i:Int)<(((Bv (T.code.getD (kk).toNat Aw.zero)).length:Nat):Int)
    ·
      refine AC true Z Z (A5 am) Aa<|Aj<|A0<|Af Z<|A2<|A0<|A3<|Z1 [0,2,0] Z<|Az (v:=a1) i Bm BC Z Z a2.isSl Z sD Aa ?_
      refine Ah (p:=Ay a1 i 1) (.inr Z) (zI<|(Bv<|T.code.getD (kk).toNat Aw.zero).getD i 0) AB Z (a2.rd1.getI sD).1 Aa (Ac 1 Z<|Ab _ [0,0,0,0,0,2,0,0,0,0,2,0,0,4] Z ?_)
      have hnl:=HR T.code (Mw T.code.length rs) j
      have hns:=Gk T.code.length rs
      have cg:=L9 (kk).toNat ((Bv<|T.code.getD (kk).toNat Aw.zero).take i)<|KB T.code (Mw T.code.length rs) j
      have hop:=Of (hK.form (kk).toNat oM) i oM
      refine Ad 4 Z<|Az (v:=v2) (((Bv<|T.code.getD (kk).toNat Aw.zero).getD i 0).toNat) Mn V3 Z Z a0.isSl oM sD Aa ?_
      refine Ah (p:=Ay v2 (((Bv<|T.code.getD (kk).toNat Aw.zero).getD i 0).toNat) 1) (.inr Z) (.bool<|(JT (kk).toNat (KB T.code (Mw T.code.length rs) j)<|(Bv<|T.code.getD (kk).toNat Aw.zero).take i).getD (((Bv<|T.code.getD (kk).toNat Aw.zero).getD i 0).toNat) false) SK Z (a0.getB sD) Aa<|Ad 1 Z ?_
      cases c6:((JT (kk).toNat (KB T.code (Mw T.code.length rs) j) ((Bv (T.code.getD (kk).toNat Aw.zero)).take i)).getD (((Bv (T.code.getD (kk).toNat Aw.zero)).getD i 0).toNat) false)
      ·
        refine Ad 2 Z<|Az (v:=v2) ((kk).toNat) Mn V3 Z Z a0.isSl oM sD (Ae (e:=50) Z Z Z) ?_
        refine Ah (p:=Ay v2 ((kk).toNat) 1) (.inr Z) (.bool<|(JT (kk).toNat (KB T.code (Mw T.code.length rs) j)<|(Bv<|T.code.getD (kk).toNat Aw.zero).take i).getD ((kk).toNat) false) SK Z (a0.getB sD) (Ae (e:=50) Z Z Z)<|Ad 1 Z ?_
        refine Az (v:=v2) (((Bv<|T.code.getD (kk).toNat Aw.zero).getD i 0).toNat) Mn V3 Z Z a0.isSl oM sD Aa ?_
        refine N0 (v:=v2) (w:=cb) YQ Z Z a0 sD Aa fun ce cj ae c7 ah an=>?_
        have bi:cb.heap.size≤ce.heap.size:=ae.size
        have b1:AE w ce:=ae.below aa (fun c hc=>zH<|ah _ hc) aa.size
        have b2:=a2.chg (o1) ae fun c hc=>zH<|ah _ hc
        have b3:=a3.chg ae fun hm=>zH<|ah _ hm
        refine Aj<|Ab _ [0,0] Z ?_
        have b4:=Md<|T.code.getD (kk).toNat Aw.zero
        refine AM ((i+1:Nat):Int) Z Z (Ba oM sD) Aa<|Ac 1 Z ?_
        exact⟨i+1,_,rfl,zR,⟨b1,(by first|(rw[Jn oM (by assumption)];exact an)|(rw[Jo oM (by assumption)];exact an)),b2,b3,sD,oM,oM,oM,oM⟩,zD⟩
      refine Ad 5 Z<|Az (v:=v2) (((Bv<|T.code.getD (kk).toNat Aw.zero).getD i 0).toNat) Mn V3 Z Z a0.isSl oM sD Aa ?_
      refine N0 (v:=v2) (w:=cb) YQ Z Z a0 sD Aa fun cf ck af c8 ai ao=>?_
      have bj:cb.heap.size≤cf.heap.size:=af.size
      have b5:AE w cf:=af.below aa (fun c hc=>zH<|ai _ hc) aa.size
      have b6:=a2.chg (o1) af fun c hc=>zH<|ai _ hc
      have b7:=a3.chg af fun hm=>zH<|ai _ hm
      refine Aj<|Ab _ [0,0] Z ?_
      have b4:=Md<|T.code.getD (kk).toNat Aw.zero
      refine AM ((i+1:Nat):Int) Z Z (Ba oM sD) Aa<|Ac 1 Z ?_
      exact⟨i+1,_,rfl,zR,⟨b5,(by first|(rw[Jn oM (by assumption)];exact ao)|(rw[Jo oM (by assumption)];exact ao)),b6,b7,sD,oM,oM,oM,oM⟩,zD⟩
    refine AC false Z Z (A6 am) Aa<|Aj<|A0<|Ai Z<|A4<|Av<|Av<|Aq<|Ab _ [0,0,0] Z<|Ad 1 Z ?_
    refine Br (kk-((1:Nat):Int)) Z Z (D3 sD sD) Aa<|Ac 1 Z ?_
    exact⟨(j+1,kk-((1:Nat):Int)),_,rfl,zR,⟨aa,(by have h:=a0;rw[za oM,show(kk).toNat=T.code.length-1-j from by omega]at h;exact h),a3,oM,oM,oM,oM,oM⟩,zD⟩
  exact D5 false Z Z (A6 al) Aa<|Aj<|Ai Z<|A4<|Av<|Av<|Aq<|Z1 [0,0] Z<|Ac 2 Z<|A1<|Ag [4] Z v2 Z ⟨_,rfl,ar,(by have h:=(ab.up oB).low (B':=w.heap.size) oM;rw[show j=T.code.length from by omega]at h;exact h)⟩
def Mq:Go.Shelf.Ren:=⟨fun|5=>134|8=>185|7=>184|19=>225|20=>226|10=>216|11=>217|12=>218|13=>219|14=>220|15=>221|16=>222|17=>223|18=>224|30=>242|31=>243|32=>244|33=>245|34=>246|35=>247|40=>255|n=>n,fun|23=>27|25=>2|3=>3|32=>208|22=>27|0=>0|44=>247|46=>160|4=>4|36=>261|35=>260|41=>266|5=>5|9=>9|53=>286|57=>290|63=>294|64=>295|n=>n,fun|n=>n⟩
theorem OC:Go.Proofs.SlLaysM.n5 Tryz.prog Mq:={
  mixed:=by kernel_rfl
  f5:=⟨Tryz.f134.name,by decide,Tryz.func134.trans (congrArg some (by kernel_rfl))⟩
  f7:=⟨Tryz.f184.name,by decide,Tryz.func184.trans (congrArg some (by kernel_rfl))⟩
  f8:=Tryz.func185.trans (congrArg some (by kernel_rfl))
  f10:=⟨Tryz.f216.name,by decide,Tryz.func216.trans (congrArg some (by kernel_rfl))⟩
  f11:=⟨Tryz.f217.name,by decide,Tryz.func217.trans (congrArg some (by kernel_rfl))⟩
  f12:=⟨Tryz.f218.name,by decide,Tryz.func218.trans (congrArg some (by kernel_rfl))⟩
  f13:=⟨Tryz.f219.name,by decide,Tryz.func219.trans (congrArg some (by kernel_rfl))⟩
  f14:=⟨Tryz.f220.name,by decide,Tryz.func220.trans (congrArg some (by kernel_rfl))⟩
  f15:=⟨Tryz.f221.name,by decide,Tryz.func221.trans (congrArg some (by kernel_rfl))⟩
  f16:=⟨Tryz.f222.name,by decide,Tryz.func222.trans (congrArg some (by kernel_rfl))⟩
  f17:=⟨Tryz.f223.name,by decide,Tryz.func223.trans (congrArg some (by kernel_rfl))⟩
  f18:=⟨Tryz.f224.name,by decide,Tryz.func224.trans (congrArg some (by kernel_rfl))⟩
  f19:=Tryz.func225.trans (congrArg some (by kernel_rfl))
  f20:=Tryz.func226.trans (congrArg some (by kernel_rfl))
  f30:=⟨Tryz.f242.name,by decide,Tryz.func242.trans (congrArg some (by kernel_rfl))⟩
  f31:=Tryz.func243.trans (congrArg some (by kernel_rfl))
  f32:=Tryz.func244.trans (congrArg some (by kernel_rfl))
  f33:=⟨Tryz.f245.name,by decide,Tryz.func245.trans (congrArg some (by kernel_rfl))⟩
  f34:=⟨Tryz.f246.name,by decide,Tryz.func246.trans (congrArg some (by kernel_rfl))⟩
  f35:=⟨Tryz.f247.name,by decide,Tryz.func247.trans (congrArg some (by kernel_rfl))⟩
  f40:=⟨Tryz.f255.name,by decide,Tryz.func255.trans (congrArg some (by kernel_rfl))⟩
  t0:=Tryz.underlying0
  a0:=Tryz.isAgg0
  z0:=Tryz.sizeOf0
  v0:=Tryz.zeroValue0
  t3:=Tryz.underlying3
  a3:=Tryz.isAgg3
  z3:=Tryz.sizeOf3
  v3:=Tryz.zeroValue3
  t4:=Tryz.underlying4
  a4:=Tryz.isAgg4
  z4:=Tryz.sizeOf4
  v4:=Tryz.zeroValue4
  t5:=Tryz.underlying5
  a5:=Tryz.isAgg5
  z5:=Tryz.sizeOf5
  v5:=Tryz.zeroValue5
  t9:=Tryz.underlying9
  a9:=Tryz.isAgg9
  z9:=Tryz.sizeOf9
  v9:=Tryz.zeroValue9
  t22:=Tryz.underlying27
  a22:=Tryz.isAgg27
  z22:=Tryz.sizeOf27
  v22:=Tryz.zeroValue27
  t23:=Tryz.underlying27
  a23:=Tryz.isAgg27
  z23:=Tryz.sizeOf27
  v23:=Tryz.zeroValue27
  t25:=Tryz.underlying2
  a25:=Tryz.isAgg2
  z25:=Tryz.sizeOf2
  v25:=Tryz.zeroValue2
  t32:=Tryz.underlying208
  a32:=Tryz.isAgg208
  z32:=Tryz.sizeOf208
  v32:=Tryz.zeroValue208
  t35:=Tryz.underlying260
  a35:=Tryz.isAgg260
  z35:=Tryz.sizeOf260
  v35:=Tryz.zeroValue260
  t36:=Tryz.underlying261
  a36:=Tryz.isAgg261
  z36:=Tryz.sizeOf261
  v36:=Tryz.zeroValue261
  t41:=Tryz.underlying266
  a41:=Tryz.isAgg266
  z41:=Tryz.sizeOf266
  v41:=Tryz.zeroValue266
  t44:=Tryz.underlying247
  a44:=Tryz.isAgg247
  z44:=Tryz.sizeOf247
  v44:=Tryz.zeroValue247
  t46:=Tryz.underlying160
  a46:=Tryz.isAgg160
  z46:=Tryz.sizeOf160
  v46:=Tryz.zeroValue160
  t53:=Tryz.underlying286
  a53:=Tryz.isAgg286
  z53:=Tryz.sizeOf286
  v53:=Tryz.zeroValue286
  t57:=Tryz.underlying290
  a57:=Tryz.isAgg290
  z57:=Tryz.sizeOf290
  v57:=Tryz.zeroValue290
  t63:=Tryz.underlying294
  a63:=Tryz.isAgg294
  z63:=Tryz.sizeOf294
  v63:=Tryz.zeroValue294
  t64:=Tryz.underlying295
  a64:=Tryz.isAgg295
  z64:=Tryz.sizeOf295
  v64:=Tryz.zeroValue295 }
theorem JP (w:World)(v:Value)(zsq:Sr)(B U:Nat)(hsz:zsq.length<4611686018427387904)(h:Fr (B8 rI 2) B U w.heap v zsq) :
    Calls Tryz.prog 134 #[v] w (fun e w'=>e=.returned (.tuple #[])∧∃(F:List Nat) (zs':Sr),At F w w'∧(∀c∈F,B≤c∧c<U)∧(∀x,x∈zs'↔x∈zsq)∧zs'.length=zsq.length∧w.heap.size≤w'.heap.size∧Fr (B8 rI 2) B U w'.heap v zs'):=by
  rcases Rz hsz h with⟨p,cap,rfl,rfl⟩|⟨g,cap,rfl,hH,hlt,hB,hU,hk⟩
  · refine Calls.mono (AnyM.slices_Sort_int_none OC p cap w) (fun e w' hr=>?_)
    obtain⟨rfl,rfl⟩:=hr
    exact⟨rfl,[],[],At.refl [] _,(fun c hc=>by cases hc),fun x=>Iff.rfl,rfl,A7 _,h⟩
  refine Calls.mono (AnyM.slices_Sort_int OC g 0 cap zsq w hH hlt hsz) (fun e w' hr=>?_)
  obtain⟨rfl,n,os,hw⟩:=hr
  have hm:∀x,x∈(zsq.mergeSort fun x y=>decide (x≤y))↔x∈zsq:=fun x=>List.mem_mergeSort
  obtain⟨c1,c2⟩:=hk n os w' _ (List.length_mergeSort _) (fun x hx=>(hm x).1 hx) hw
  exact⟨rfl,[g],_,c1,(fun c hc=>by rw[A9 hc];exact⟨hB,hU⟩),hm,List.length_mergeSort _,c1.size,c2⟩
theorem Il (w:World)(gm:Nat)(es9:Array MapEntry)(ck9:Nat)(xs:Sr)(a4:Rp w.heap gm es9 ck9 xs)(hxl:xs.length≤1000000) :
    Calls Tryz.prog 74 #[.map (some gm)] w (fun e w'=>∃v0:Value,∃(x0:Sr),e=.returned (v0)∧AE w w'∧Fr (B8 rI 2) w.heap.size w'.heap.size w'.heap v0 x0∧((∀y,y∈x0↔y∈xs)∧x0.length≤xs.length)):=by
  refine Ap [.map<|some gm] 19 Tryz.func74 Z Z sM ?_
  have ah:AE w w:=AE.refl w
  have ax:=getElem?_lt a4.1
  refine Z2 Z<|Z1 [3,0] Z (CH (rI) AI Bm BC Aa fun v1 w1 a8 ay ai=>?_)
  have a9:=a8.size
  have aa:=ah.trans a8
  refine Ac 1 Z<|A0<|Z1 [0,3] Z<|Ad 1 Z ?_
  have aj:=a4.ext aa
  refine QC (g:=gm) (show Tryz.prog.underlying 119=some (.map 2 4) by kernel_rfl) Z aj Aa fun vit w2 n0 a5 az ak bh=>?_
  have ab:=a5.size
  have al:=aa.trans a5
  have a0:=ai.ext (o1) a5
  have ac:=UQ a0 ak oM oM oM
  refine Aj<|A3<|AV (S:=Nat×Sr×Value) (fun⟨n9a,ys,vo⟩=>([(3,vo),(7,vit)])) (fun⟨n9a,ys,vo⟩ W=>AE w W∧Fr (Rq vit gm es9 ck9 2) w.heap.size W.heap.size W.heap vo (ys,ys,n9a)∧ys.length+n9a≤xs.length) (fun⟨n9a,ys,vo⟩=>n9a) (n0,([]:Sr),v1) ⟨rfl,rfl,trivial⟩ ⟨al,ac.up Jl,(by simp only[zb];omega)⟩ ?_
  clear ah ai ay a8 a9 aa aj ak az a5 ab al a0
  rintro⟨n9a,ys,vo⟩ ρ3 w3 ⟨a6,a1,am⟩
  have b0:w.heap.size≤w3.heap.size:=a6.size
  refine Z1 [4,0] Z ?_
  have b1:=a4.ext a6
  refine SA (vit:=vit) (v:=vo) (g:=gm) Z a1 b1 oM Aa fun b9 y9 val9 w4 n9 F4 an bi b2 b3 ao ad b4=>?_
  have b5:w3.heap.size≤w4.heap.size:=an.size
  have a7:AE w w4:=an.below a6 (fun c hc=>zH<|b2 _ hc) a6.size
  refine AR (vs:=Y9 b9 (zI y9) val9) (.bool b9) Z (VU _ _ _) Aa<|Aj<|A0 ?_
  cases ap:b9
  ·
    refine Ai (by first|rfl|exact zW ap)<|A4<|Av<|Av<|Aq<|Z1 [0,4] Z<|Ad 1 Z ?_
    have ae:=UR ao
    refine AA 134 [] [] [vo] Z Z Xe Aa (JP _ vo ys w.heap.size w3.heap.size oM ae) ?_
    rintro e6 w6 ⟨rfl,F6,zs9,aq,b6,a2,ar,bj,b7⟩
    refine⟨_,rfl,?_⟩
    have b8:w4.heap.size≤w6.heap.size:=aq.size
    have ba:AE w w6:=aq.below a7 (fun c hc=>zH<|b6 _ hc) a7.size
    exact Aj<|Z1 [0,0] Z<|Ac 2 Z<|A1<|Ag [2] Z vo Z ⟨vo,zs9,rfl,ba,b7.up o1,(by exact⟨fun y=>(a2 y).trans<|b4 (by assumption) y,zO⟩)⟩
  refine Af (by first|rfl|exact zW ap)<|A2<|A3<|Z1 [4,0,0] Z ?_
  have bb:=a4.ext a7
  refine QD (v:=vit) (y:=y9) (val:=val9) Z (ad (by assumption)).2 bb Aa (AR (vs:=[zI y9,val9]) (zI y9) Z Z Aa<|Ac 1 Z<|Ab _ [0,0,3,4,0] Z<|Ad 2 Z (BI (u:=zI y9) (B:=w4.heap.size) AI Bm BC Z Z (KL w4.heap.size w4.heap.size _ _ b3) (A7 _) Aa fun v8 w8 af bk au=>?_))
  have bc:=af.size
  have av:=a7.trans af
  have a3:=ao.ext (Jl) af
  refine US (vit:=vit) (v:=vo) (a:=v8) Bm BC Z Z Z a3 au oM (by simp only[zd];omega) (by simp only[zd,maxLen];omega) Aa fun v9 w9 F9 ag aw bd=>?_
  have be:w8.heap.size≤w9.heap.size:=ag.size
  have bf:AE w w9:=ag.below av (fun c hc=>zH<|aw _ hc) av.size
  have bg:=au.chg (o1) ag fun c hc=>zH<|aw _ hc
  exact Ac 1 Z ⟨(n9,ys++[y9],v9),_,rfl,⟨rfl,rfl,trivial⟩,⟨bf,(by have h:=bd.up Jl;rw[if_pos (by assumption)]at h;exact h),(by have:=(ad (by assumption)).1;rw[z4,zd];omega)⟩,(ad (by assumption)).1⟩
theorem TX {p:Prop}(h:p:=by first|(rw[To (by assumption) (by assumption)];exact hL7_0)|(rw[Tq (by assumption)];exact hL7_0)|(rw[Tr (by assumption)];exact hL7_0)):p:=h
theorem IG (w:World)(a:Sr)(ipT:Int)(vtc vtg vtx:Value)(T:Tp)(oT:Sr)(r:Int)(_hipT:Bn ipT)(htcT:RN [] (Cx 4 Ix) w.heap vtc T.code)(htgT:RN [] (Cx 2 Iy) w.heap vtg T.grd)(htoT:RN [] (B4 rI) w.heap vtx oT)(_hr:Bn r)(hip:ipT=(a.length:Int))(hR:JS a T oT)(hr:0≤r∧r<(T.code.length:Int)) :
    Calls Tryz.prog 21 #[(.agg #[(zI ipT),vtc,vtg,vtx]),zI r] w (fun e w'=>∃v0:Value,∃(x0:Sr),e=.returned (.tuple #[v0,zI 0])∧AE w w'∧Fr (B8 rI 2) w.heap.size w'.heap.size w'.heap v0 x0∧(SF T.code r x0)):=by
  refine Ap [.agg #[zI ipT,vtc,vtg,vtx],zI r] 52 Tryz.func21 Z Z sM ?_
  have b4:AE w w:=AE.refl w
  have hl_vtx:=htoT.lenL
  unfold maxLen at hl_vtx
  have hK:=hR.k
  have hni:=hK.nb
  have hcl:=hK.cl
  have bv:=hK.gl
  have hol:=hK.ol
  have hpos:=hK.pos
  refine Z1 [3,0,0] Z (Bx (cs:=#[zI ipT,vtc,vtg,vtx]) Z Aa fun w1 aq b9 an=>?_)
  have ar:=aq.size
  have af:=b4.trans aq
  replace an:BX w1.heap w.heap.size [zI ipT,vtc,vtg,vtx]:=an
  refine Ac 2 Z<|A0<|A3<|Z1 [2,3,0,0] Z<|AO (p:=zP w.heap.size) (.inr Z) [zI ipT,vtc,vtg,vtx] Cz Z (fun bu au=>LD.of_box<|BX.ext (w:=w1) an au) Z Aa<|Au 71 [] [] [.agg #[zI ipT,vtc,vtg,vtx]] Z Z X1 Aa (EL _ a (ipT) vtc vtg vtx (T) (oT) _hipT (htcT.ext (An AL) af) (htgT.ext (An AT) af) (htoT.ext g1 af) oM hR) ?_
  rintro e2 w2 ⟨rfl,ag⟩
  refine⟨_,rfl,ag,?_⟩
  have ba:=ag.size
  have bb:=af.trans ag
  have a5:=an.ext ag
  refine Bq false Z Z Aa<|Ac 1 Z<|Ai Z<|Z1 [0,0,2,0,0,0,0,0] Z<|Ad 1 Z<|Ak (p:=zP w.heap.size) 1 BZ Z Z Aa<|Ah (p:=Ao (zP w.heap.size) 1) (.inr Z) vtc D8 Z (a5.ldp (i:=1) sM) Aa<|AP (v:=vtc) Id Z htcT.isSl Aa ?_
  refine Br ((T.code.length:Int)-((1:Nat):Int)) Z Z (D3 sD sD) Aa ?_
  refine Ax 72 [] [] [zI r,zI ((0:Nat):Int),zI ((T.code.length:Int)-((1:Nat):Int))] Z Z Du Aa (.bool (decide (((0:Nat):Int)≤r) && decide (r≤((T.code.length:Int)-((1:Nat):Int))))) (fun wq=>AS wq _ _ _ _hr oM oM) ?_
  rw[show(decide (((0:Nat):Int)≤r) && decide (r≤((T.code.length:Int)-((1:Nat):Int))))=true from(by rw[A5 oM,A5 oM];rfl)]
  refine Bq false Z Z Aa<|Ac 1 Z<|Ai Z<|A2<|Z1 [3,0] Z (UP Aa fun v4 w4 ao bc b5=>?_)
  have bd:=ao.size
  have be:=bb.trans ao
  have a6:=a5.ext ao
  refine Ac 1 Z<|A0<|Z1 [2,0,3,3,0,0] Z<|AO (p:=zP w.heap.size) (.inr Z) [zI ipT,vtc,vtg,vtx] Cz Z (fun bu au=>LD.of_box<|BX.ext (w:=w4) a6 au) Z Aa<|Ad 1 Z (BI (u:=zI r) (B:=w4.heap.size) AI Bm BC Z Z (KL w4.heap.size w4.heap.size _ _ _hr) (A7 _) Aa fun v5 w5 ah bf av=>?_)
  have bg:=ah.size
  have ap:=be.trans ah
  have ai:=a6.ext ah
  have a7:=b5.ext (M9) ah
  refine Au 73 [] [] [.agg #[zI ipT,vtc,vtg,vtx],v5] Z Z YM Aa (Hi _ a (ipT) vtc vtg vtx (T) (oT) v5 ([r]) _hipT (htcT.ext (An AL) ap) (htgT.ext (An AT) ap) (htoT.ext g1 ap) av.rd1 oM hR (by intro k hk;match k,hk with|0,_=>exact hr)) ?_
  rintro e6 w6 ⟨v6,rfl,aa,aw⟩
  refine⟨_,rfl,aa,?_⟩
  have bh:=aa.size
  have bi:=ap.trans aa
  have aj:=ai.ext aa
  have a8:=a7.ext (M9) aa
  have ak:=av.ext (o1) aa
  refine AP (v:=v6) Mn Z aw.isSl Aa<|Ac 1 Z<|A3 ?_
  refine AV (S:=Nat) (fun k=>([(27,zI (k:Int)),(2,zP w.heap.size),(6,v4),(25,v6),(26,zI (((Fz T.code [r]).length:Nat):Int))])) (fun k W=>AE w W∧Fr (UL) w2.heap.size w4.heap.size W.heap v4 (Mx T.code (Fz T.code [r]) k)∧Fr (B8 rB 4) w5.heap.size w6.heap.size W.heap v6 (Fz T.code [r])∧BX W.heap w.heap.size [zI ipT,vtc,vtg,vtx]∧k≤T.code.length∧w.heap.size<w2.heap.size∧w2.heap.size≤W.heap.size) (fun k=>T.code.length-k) 0 ⟨rfl,rfl,rfl,rfl,rfl,trivial⟩ ⟨bi,a8,aw,aj,sD,oM,oM⟩ ?_
  clear b4 b9 aq ar af ag b5 bc ao av bf ah a7 aw aa a8 ak
  rintro k ρ7 w7 ⟨a2,hL7_0,a1,a0,b6,bj,bk⟩
  have bl:w.heap.size≤w7.heap.size:=a2.size
  have br:=a0.lt
  refine Z1 [0] Z ?_
  by_cases al:(k:Int)<(((Fz T.code [r]).length:Nat):Int)
  ·
    refine AC true Z Z (A5 al) Aa<|Aj<|A0<|Af Z<|A2<|A0<|A3<|Z1 [0,0,2,0,0] Z ?_
    have hnl:=Mf (cs:=T.code) [r]
    refine Ad 1 Z<|Az (v:=v6) k Mn V3 Z Z a1.isSl Z sD Aa ?_
    refine Ah (p:=Ay v6 k 1) (.inr Z) (.bool<|(Fz T.code [r]).getD k false) SK Z (a1.getB sD) Aa<|Ac 2 Z<|Z1 [0,0,0,2,0,0,0,2,0,0] Z<|Ad 2 Z ?_
    cases bm:((Fz T.code [r]).getD k false)
    ·
      refine Ac 8 Z<|Ai Z<|A2<|Ab _ [0,0] Z<|AM ((k+1:Nat):Int) Z Z (Ba oM sD) Aa<|Ac 1 Z ?_
      exact⟨k+1,_,rfl,zR,⟨a2,TX,a1,a0,sD,oM,oM⟩,zD⟩
    refine Ak (p:=zP w.heap.size) 1 BZ Z Z (Ae (e:=33) Z Z Z)<|Ah (p:=Ao (zP w.heap.size) 1) (.inr Z) vtc D8 Z (a0.ldp (i:=1) sM) (Ae (e:=33) Z Z Z)<|Ad 1 Z<|Az (v:=vtc) k Id DN Z Z htcT.isSl Z sD (Ae (e:=33) Z Z Z) ?_
    obtain⟨cs12,ax,a3⟩:=htcT.get AL Aw.zero (k:=k) sD
    obtain⟨rfl,ay⟩:=Ep ax
    refine AG (p:=Ay vtc k 4) 0 Fd Z (a3 _<|At.of_ext [] a2) (Ae (e:=33) Z Z Z)<|Ah (p:=Ao (Ay vtc k 4) 0) (.inr Z) (zI<|(T.code.getD k Aw.zero).op) AB Z ((a3 _<|At.of_ext [] a2).ld (i:=0) (by first|(simp[Ef,Eg];done)|simp[Rm])) (Ae (e:=33) Z Z Z) ?_
    by_cases am:(T.code.getD k Aw.zero).op=((1:Nat):Int)
    ·
      refine Al true Z Z (A5 am) (Ae (e:=33) Z Z Z)<|Ac 1 Z<|Af Z<|Ab _ [0,0,2,0,0,0,2,4] Z<|Ad 1 Z<|Ak (p:=zP w.heap.size) 1 BZ Z Z Aa<|Ah (p:=Ao (zP w.heap.size) 1) (.inr Z) vtc D8 Z (a0.ldp (i:=1) sM) Aa<|Ad 1 Z ?_
      refine Az (v:=vtc) k Id DN Z Z htcT.isSl Z sD Aa<|AG (p:=Ay vtc k 4) 3 D1 Z (a3 _<|At.of_ext [] a2) Aa<|Ah (p:=Ao (Ay vtc k 4) 3) (.inr Z) (zI<|(T.code.getD k Aw.zero).num) AB Z ((a3 _<|At.of_ext [] a2).ld (i:=3) (by first|(simp[Ef,Eg];done)|simp[Rm])) Aa (Sy (v:=v4) (show Tryz.prog.underlying 119=some (.map 2 4) by kernel_rfl) u2 Z Z hL7_0 ay.2.2.2 Aa fun bt bw a4 bn ab ac=>?_)
      have b7:w7.heap.size≤bt.heap.size:=a4.size
      have az:AE w bt:=a4.below a2 (fun c hc=>zH<|ab _ hc) a2.size
      have b0:=a1.chg (oB) a4 fun c hc=>zH<|ab _ hc
      have b1:=a0.chg a4 fun hm=>zH<|ab _ hm
      refine Aj<|Ab _ [0,0] Z<|AM ((k+1:Nat):Int) Z Z (Ba oM sD) Aa<|Ac 1 Z ?_
      exact⟨k+1,_,rfl,zR,⟨az,(by first|(rw[To (by assumption) (by assumption)];exact ac)|(rw[Tq (by assumption)];exact ac)|(rw[Tr (by assumption)];exact ac)),b0,b1,sD,oM,oM⟩,zD⟩
    refine Al false Z Z (A6 am) (Ae (e:=33) Z Z Z)<|Ac 1 Z<|Ai Z<|A2<|Ab _ [0,0] Z<|AM ((k+1:Nat):Int) Z Z (Ba oM sD) Aa<|Ac 1 Z ?_
    exact⟨k+1,_,rfl,zR,⟨a2,TX,a1,a0,sD,oM,oM⟩,zD⟩
  refine AC false Z Z (A6 al) Aa<|Aj<|A0<|Ai Z<|A4<|Av<|Av<|Aq<|Z1 [0,3,0,0] Z ?_
  have hnl:=Mf (cs:=T.code) [r]
  have hil:=La (cs:=T.code) (mk:=Fz T.code [r]) k
  obtain⟨gm9,es9,ck9,bo,bp,bq⟩:=UO hL7_0
  subst bo
  refine Ad 1 Z<|Au 74 [] [] [.map<|some gm9] Z Z YN Aa (Il _ gm9 es9 ck9 (Mx T.code (Fz T.code [r]) k) bq oM) ?_
  rintro bx bz ⟨a9,bs,rfl,ad,ae,b2⟩
  refine⟨_,rfl,ad,?_⟩
  have b8:=ad.size
  have b3:=a2.trans ad
  exact Ac 2 Z<|A1<|Ag [4,5] Z (.tuple #[a9,zI ((0:Nat):Int)]) Z ⟨a9,bs,rfl,b3,(ae.up o1).low a2.size,(by have hke:k=T.code.length:=oM;subst hke;exact SG (by assumption))⟩
theorem Ey (w:World)(va:Value)(a:Sr)(k:Int)(x:Int)(ha:Rd (B4 rI) w.heap va a)(_hk:Bn k)(_hx:Bn x)(hla:a.length≤1000000000000)(ag:0≤k) :
    Calls Tryz.prog 20 #[va,zI k,zI x] w (fun e w'=>∃v0:Value,e=.returned (v0)∧AE w w'∧Fr (B8 rI 2) w.heap.size w'.heap.size w'.heap v0 (a.set k.toNat (md (a.getD k.toNat 0+x)))):=by
  refine Ap [va,zI k,zI x] 25 Tryz.func20 Z Z sM ?_
  have a8:AE w w:=AE.refl w
  have aj:=ha.lenle
  refine Z2 Z<|Z1 [3,0,4,0] Z (CH (rI) AI Bm BC Aa fun v1 w1 a3 ah a9=>?_)
  have aa:=a3.size
  have a1:=a8.trans a3
  refine Ad 1 Z (El (v:=v1) (a:=va) Bm BC Z Z Z a9 a1.size (ha.ext g1 a1) sD (by unfold maxLen;first|omega|assumption|(simp only[zb,z9,z4,z6,z5];omega)|(simp[zb,z9,z4,z6,z5];done)|(simp[zb,z9,z4,z6,z5];omega)) Aa fun v2 w2 F2 a4 ab a0=>?_)
  have a2:AE w w2:=a4.below a1 (fun c hc=>A8 (A7 _) (ab c hc).1) a1.size
  have ac:w1.heap.size≤w2.heap.size:=a4.size
  refine Ac 1 Z<|A0<|Z1 [0,0,0,0] Z ?_
  have hnl:(([]:Sr)++a).length=a.length:=by rw[zl]
  refine Ad 2 Z<|AP (v:=v2) Bm Z a0.isSl Aa ?_
  by_cases a5:k<(((([]:Sr)++a).length:Nat):Int)
  ·
    refine AC true Z Z (A5 a5) Aa<|Aj<|Af Z<|Ab _ [0,0,0,0,0,2,0,0,0,4] Z<|Ad 4 Z<|Az (v:=v2) ((k).toNat) Bm BC Z Z a0.isSl oM sD Aa ?_
    refine Ah (p:=Ay v2 ((k).toNat) 1) (.inr Z) (zI<|(([]:Sr)++a).getD ((k).toNat) 0) AB Z (a0.rd1.getI sD).1 Aa (Ad 1 Z ?_)
    refine Ax 70 [] [] [zI<|(([]:Sr)++a).getD ((k).toNat) 0,zI x] Z Z V1 Aa (zI<|md (((([]:Sr)++a).getD ((k).toNat) 0)+x)) (fun wq=>FT wq _ _ (a0.rd1.getI sD).2 _hx) ?_
    refine Az (v:=v2) ((k).toNat) Bm BC Z Z a0.isSl oM sD Aa (GK (v:=v2) (w:=w2) GD Z Z (Dt _) a0 sD Aa fun w5 F5 a6 ai ad a7=>?_)
    have ae:AE w w5:=a6.below a2 (fun c hc=>A8 (A7 _) (ad c hc).1) a2.size
    have af:w2.heap.size≤w5.heap.size:=a6.size
    exact Aj<|Z1 [0,0] Z<|Ac 2 Z<|A1<|Ag [6] Z v2 Z ⟨v2,rfl,ae,(by first|exact a7.up o1|(have h:=a7.up o1;rw[List.set_eq_of_length_le oM];exact h))⟩
  exact AC false Z Z (A6 a5) Aa<|Aj<|Ai Z<|A2<|Z1 [0,0] Z<|Ac 2 Z<|A1<|Ag [6] Z v2 Z ⟨v2,rfl,a2,(by first|exact a0.up o1|(have h:=a0.up o1;rw[List.set_eq_of_length_le oM];exact h))⟩
theorem Rj {p:Prop}(h:p:=by first|(simp[Ef,Eg];done)|simp[Rm]):p:=h
theorem Ce {p:Prop}(h:p:=by assumption):p:=h
theorem Im (w:World)(vc:Value)(cs:List UInt8)(vd:Value)(ds:List UInt8)(hcs:Rd (B4 rU) w.heap vc cs)(hds:Rd (B4 rU) w.heap vd ds)  :
    Calls Tryz.prog 4 #[vc,vd] w (fun e w'=>e=.returned (.bool true)∧AE w w'):=by
  refine Ap [vc,vd] 259 Tryz.func4 Z Z sM ?_
  have jq:AE w w:=AE.refl w
  have fh:=hcs.lenle
  have fi:=hds.lenle
  refine Z2 Z<|A0<|Z1 [0,0,3] Z<|Ad 2 Z<|Au 7 [] [] [vc,vd] Z Z Zg Aa (K2 _ _ _ _ _ (hcs.ext CC jq)<|hds.ext CC jq) ?_
  rintro e1 w1 ⟨rfl,jr⟩
  refine⟨_,rfl,jr,?_⟩
  have mf:=jr.size
  have jv:=jq.trans jr
  refine Aj ?_
  cases lg:(decide (((3000:Nat):Int)<(cs.length:Int)) || decide (((3000:Nat):Int)<(ds.length:Int)))
  ·
    refine Ai (by first|rfl|exact zW lg)<|A2<|Z1 [0,3,0,0,0,0,0,0,3,4,0,0,0,0] Z<|Ad 1 Z<|Au 8 [] [] [vc] Z Z Zh Aa (Ka _ vc _<|hcs.ext CC jv) ?_
    rintro e3 w3 ⟨vD,vaD,vbD,pD,fD,kD,aD,bD,rfl,js,hOD,haD,hbD,hCD⟩
    refine⟨_,rfl,js,?_⟩
    have mg:=js.size
    have mh:=jv.trans js
    have hfe:=hCD.fe
    have hlc:=hCD.len
    have hpa:=hCD.dr.par fD.toNat oM
    have nk:=hCD.dr.outs fD.toNat oM
    have hla:=hCD.la
    have hlb:=hCD.lb
    have hft:(fD.toNat:Int)=fD:=by omega
    have fj:=KW hCD.dr.ok
    have jw:=VP hCD.dr.ok oM hla.1 hla.2
    have hex:=Tg jw
    refine Ad 1 Z<|AR (vs:=[.agg #[vD],zI fD,zI kD,vaD,vbD]) (.agg #[vD]) Z Z Aa<|AR (vs:=[.agg #[vD],zI fD,zI kD,vaD,vbD]) (zI fD) Z Z Aa<|AR (vs:=[.agg #[vD],zI fD,zI kD,vaD,vbD]) (zI kD) Z Z Aa<|AR (vs:=[.agg #[vD],zI fD,zI kD,vaD,vbD]) vaD Z Z Aa<|AR (vs:=[.agg #[vD],zI fD,zI kD,vaD,vbD]) vbD Z Z Aa (Bj (z:=.agg #[zN]) P4 Aa fun w4 gv mi jx=>?_)
    have jy:=gv.size
    have jz:=mh.trans gv
    have g5:=hOD.ext (As<|B1 153 6) gv
    have gx:=haD.ext (o1) gv
    have gy:=hbD.ext (o1) gv
    replace jx:BX w4.heap w3.heap.size [zN]:=jx
    refine Bw (vs:=[vD]) Do Z Z (by intro u hu;simp only[ze,z2,or_false]at hu;rcases hu with rfl <;> first|exact⟨rfl,rfl⟩|exact Bk g5.isSlS) jx Z Z Aa fun w5 gw mj jt=>?_
    replace jt:BX w5.heap w3.heap.size [vD]:=jt
    have mk:w4.heap.size≤w5.heap.size:=gw.size
    have lh:AE w w5:=gw.below jz (fun _ h=>zE h) jz.size
    have ju:=g5.chg (As<|B1 153 6) gw fun _ h=>zA h
    have li:=gx.chg (o1) gw fun _ h=>zA h
    have lj:=gy.chg (o1) gw fun _ h=>zA h
    refine Ac 4 Z<|Z1 [0,0,2,0,0,0,2,0,3,0] Z<|Ad 1 Z<|Ak (p:=zP w3.heap.size) 0 BG Z Z Aa<|Ah (p:=Ao (zP w3.heap.size) 0) (.inr Z) vD Cb Z (jt.ldp (i:=0) sM) Aa<|Ad 1 Z<|Az (v:=vD) ((fD).toNat) Gp CN Z Z ju.isSlS oM sD Aa ?_
    obtain⟨cs9,ml,lk⟩:=RN.get (S:=[]) (AH 6) Fn.zero (k:=(fD).toNat) (RN.of_frF ju (fun b hb=>by cases hb)) sD
    obtain⟨ll,rfl,lm⟩:=RF.of ml
    have gz:=lm.rn.lenle
    unfold maxLen at gz
    refine AG (p:=Ay vD ((fD).toNat) 3) 2 BU Z (lk _<|At.refl [] _) Aa<|Ah (p:=Ao (Ay vD ((fD).toNat) 3) 2) (.inr Z) ll Bl Z ((lk _<|At.refl [] _).ld (i:=2) Rj) Aa<|AP (v:=ll) CR Z lm.rn.isSl Aa<|Au 9 [] [] [vd,zI (((pD.getD ((fD).toNat) Fn.zero).outs.length:Nat):Int)] Z Z Zi Aa (K3 _ _ _ _ (hds.ext CC lh) oM sD) ?_
    rintro nl fg ⟨aa,f9,rfl,c7,e6,k1⟩
    refine⟨_,rfl,c7,?_⟩
    have ln:=c7.size
    have k2:=lh.trans c7
    have c9:=ju.ext (As<|B1 153 6) c7
    have ca:=li.ext (o1) c7
    have e7:=lj.ext (o1) c7
    have e8:=jt.ext c7
    refine Ac 1 Z<|Z1 [2,0,0,3,0,0,0,0,0,0,0] Z ?_
    obtain⟨ws,hws⟩:∃l:Sr,l=f9:=⟨_,rfl⟩
    have hn_ws:=e6
    rw[← hws]at hn_ws
    have hwt:ws.length=(pD.getD fD.toNat Fn.zero).outs.length∧B9 ws=true:=by rw[hws];exact⟨by have h9:=‹_∧B9 f9=true›.1;omega,‹_∧B9 f9=true›.2⟩
    refine AO (p:=zP w3.heap.size) (.inr Z) [vD] Do Z (fun fc dp=>LD.of_box<|BX.ext (w:=fg) e8 dp) Z Aa<|Ad 2 Z<|Au 10 [] [] [.agg #[vD],zI fD,vaD] Z Z Yx Aa (IE _ 6 vD (pD) _ _ _ (RN.of_frF c9 fun b hb=>by cases hb) oM ca.rd1 hCD.dr.szp) ?_
    rintro nm fm ⟨d7,rfl,bq,e9⟩
    refine⟨_,rfl,bq,?_⟩
    have i0:=bq.size
    have i2:=k2.trans bq
    have cb:=c9.ext (As<|B1 153 6) bq
    have cc:=ca.ext (o1) bq
    have ea:=e7.ext (o1) bq
    have eb:=e8.ext bq
    have hn_wsx11:=hn_ws.ext (o1) bq
    refine Ad 1 Z<|AR (vs:=[d7,zI ((UH pD fD aD:Nat):Int),zI<|Rn pD fD aD]) d7 Z Z Aa<|AR (vs:=[d7,zI ((UH pD fD aD:Nat):Int),zI<|Rn pD fD aD]) (zI ((UH pD fD aD:Nat):Int)) Z Z Aa<|AR (vs:=[d7,zI ((UH pD fD aD:Nat):Int),zI<|Rn pD fD aD]) (zI<|Rn pD fD aD) Z Z Aa<|Ac 3 Z<|Z1 [2,0,0,3,0,0,0,3,4,0] Z<|AO (p:=zP w3.heap.size) (.inr Z) [vD] Do Z (fun fc dp=>LD.of_box<|BX.ext (w:=fm) eb dp) Z Aa<|Ad 2 Z ?_
    refine Au 11 [] [] [.agg #[vD],zI fD,vaD] Z Z Yy Aa (Kb _ 6 vD pD (fD) vaD aD (RN.of_frF cb fun b hb=>by cases hb) oM (RN.of_fr1 cc fun b hb=>absurd hb z2) hCD.dr.ok hCD.dr.szp oM oM hla.2) ?_
    rintro nn f6 ⟨i12,f0,f4,f1,f2,f3,no,fd,rfl,b3,g6,lo,i3,c8,i4⟩
    refine⟨_,rfl,b3,?_⟩
    have i5:=b3.size
    have i6:=i2.trans b3
    have ec:=cb.ext (As<|B1 153 6) b3
    have ed:=cc.ext (o1) b3
    have ee:=ea.ext (o1) b3
    have ef:=eb.ext b3
    have hn_wsx12:=hn_wsx11.ext (o1) b3
    have b6:=e9.ext (o1) b3
    have lp:Mv pD (fD).toNat aD=fd:=M8 (A7 1) fj oM hla.2 (IV (ED hla.2) (Jk _)) oM g6
    have i7:=AE.refl f6
    refine Ad 1 Z<|AR (vs:=[.agg #[zI i12,f0,f4,f1],zI fd]) (.agg #[zI i12,f0,f4,f1]) Z Z Aa<|AR (vs:=[.agg #[zI i12,f0,f4,f1],zI fd]) (zI fd) Z Z Aa ?_
    have mm:=ef.lt
    refine Bj (z:=.agg #[zI 0,zN,zN,zN]) XI Aa fun fk b4 k3 gk=>?_
    have i8:=b4.size
    have gl:=i6.trans b4
    have k4:=i7.trans b4
    have eg:=ec.ext (As<|B1 153 6) b4
    have eh:=ed.ext (o1) b4
    have ei:=ee.ext (o1) b4
    have gm:=ef.ext b4
    have hn_wsx13:=hn_wsx12.ext (o1) b4
    have b7:=b6.ext (o1) b4
    replace gk:BX fk.heap f6.heap.size [zI 0,zN,zN,zN]:=gk
    refine Bw (vs:=[zI i12,f0,f4,f1]) Cz Z Z (fun u hu=>by rcases ze.1 hu with rfl|hu;exact⟨rfl,rfl⟩;exact i3 u hu) gk Z Z Aa fun f7 b5 k5 ev=>?_
    replace ev:BX f7.heap f6.heap.size [zI i12,f0,f4,f1]:=ev
    have i9:fk.heap.size≤f7.heap.size:=b5.size
    have gn:AE w f7:=b5.below gl (fun _ h=>zE h) gl.size
    have ia:=eg.chg (As<|B1 153 6) b5 fun _ h=>zA h
    have go:=eh.chg (o1) b5 fun _ h=>zA h
    have ib:=ei.chg (o1) b5 fun _ h=>zA h
    have ic:=gm.chg b5 (zB ·)
    have gp:=hn_wsx13.chg (o1) b5 fun _ h=>zA h
    have id:=b7.chg (o1) b5 fun _ h=>zA h
    have ej:At [f6.heap.size] f6 f7:=(At.of_ext _ k4).trans b5
    have d8:=AE.refl f7
    refine Ac 1 Z<|A0<|Z1 [0,0,0] Z<|Ad 2 Z ?_
    have k6:¬(fd≠Rn pD fD aD):=oM
    refine B5 false Z Z (A6 k6) Aa<|Aj<|Ai Z<|A2<|A0<|Z1 [0,0] Z<|Ad 1 Z ?_
    by_cases ie:Rn pD fD aD≠((0:Nat):Int)
    ·
      exact B5 true Z Z (A5 ie) Aa<|Aj<|Af Z<|Z2 Z<|A1<|Am<|Ag [4] Z (.bool true) Z ⟨rfl,gn⟩
    refine B5 false Z Z (A6 ie) Aa<|Aj<|Ai Z<|A2<|Z1 [2,0,0,3,0,0,0,0,0] Z ?_
    have ig:fd=0:=by omega
    obtain⟨ni,hTB,mn,hxl,hEn,mo,mp,mq⟩:=i4 ig
    have ih:=g6
    rw[ig]at ih
    have hRc:Su pD (fD).toNat aD f2 f3:=⟨fj,zO,zO,hla.2,_,ih⟩
    have hTR:=hRc.tpr hTB mn
    have ii:RN [] (Cx 4 Ix) f7.heap f0 f3.code:=RN.ext (An AL) (RN.none (RN.chg (An AL) (RG.rnG (g:=f6.heap.size) (An AL) mo oM) ej)) d8
    have ij:RN [] (Cx 2 Iy) f7.heap f4 f3.grd:=RN.ext (An AT) (RN.none (RN.chg (An AT) (RG.rnG (g:=f6.heap.size) (An AT) mp oM) ej)) d8
    have ik:RN [] (B4 rI) f7.heap f1 f2:=RN.ext g1 (RN.none (RN.chg g1 (RG.rnG (g:=f6.heap.size) g1 mq oM) ej)) d8
    have hxw:ws.length=f2.length:=by omega
    have h00:Rn pD fD aD=0:=by omega
    have hK:=hTR.k
    have hKl:=hK.ol
    have hKc:=hK.cl
    refine AO (p:=zP f6.heap.size) (.inr Z) [zI i12,f0,f4,f1] Cz Z (fun fc dp=>LD.of_box<|BX.ext (w:=f7) ev dp) Z Aa<|Ad 2 Z<|Au 18 [] [] [.agg #[zI i12,f0,f4,f1],vaD,aa] Z Z YB Aa (HY _ (i12) f0 f4 f1 (f3) (f2) _ _ _ _ c8 ii ij ik go.rd1 gp.rd1 oM hTR (by exact⟨hxw,hwt.2⟩)) ?_
    rintro np ff ⟨ao,rfl,ag,ek⟩
    refine⟨_,rfl,ag,?_⟩
    have lq:=ag.size
    have k7:=gn.trans ag
    have k8:=d8.trans ag
    have d9:=ia.ext (As<|B1 153 6) ag
    have br:=go.ext (o1) ag
    have da:=ib.ext (o1) ag
    have db:=ic.ext ag
    have bs:=gp.ext (o1) ag
    have dc:=id.ext (o1) ag
    have dd:=ev.ext ag
    have il:=ii.ext (An AL) ag
    have im:=ij.ext (An AT) ag
    have io:=ik.ext g1 ag
    refine Ad 1 Z<|AR (vs:=[ao,zI 0]) ao Z Z Aa<|AR (vs:=[ao,zI 0]) (zI 0) Z Z Aa<|Ac 2 Z<|Z1 [2,0,0,3,0,0,0,0,0] Z ?_
    obtain⟨ad,had⟩:∃l:Sr,l=Dl (FP f3.code (Bz 2 (I1 aD aD 2) f3.code) f2 ws):=⟨_,rfl⟩
    have hn_ad:=ek
    rw[← had]at hn_ad
    have hal:ad.length=f3.code.length:=by rw[had,EG,HP,BD]
    refine AO (p:=zP f6.heap.size) (.inr Z) [zI i12,f0,f4,f1] Cz Z (fun fc dp=>LD.of_box<|BX.ext (w:=ff) dd dp) Z Aa<|Ad 2 Z<|Au 16 [] [] [.agg #[zI i12,f0,f4,f1],vaD,aa] Z Z Yz Aa (Hg _ (i12) f0 f4 f1 (f3) (f2) _ _ _ _ c8 il im io br.rd1 bs.rd1 oM hTR (by exact⟨hxw,hwt.2⟩)) ?_
    rintro nq fa ⟨a1,rfl,ae,el⟩
    refine⟨_,rfl,ae,?_⟩
    have lr:=ae.size
    have k9:=k7.trans ae
    have ka:=k8.trans ae
    have de:=d9.ext (As<|B1 153 6) ae
    have ap:=br.ext (o1) ae
    have df:=da.ext (o1) ae
    have dg:=db.ext ae
    have dh:=bs.ext (o1) ae
    have di:=dc.ext (o1) ae
    have dj:=dd.ext ae
    have hn_adx28:=hn_ad.ext (o1) ae
    have ip:=il.ext (An AL) ae
    have kb:=im.ext (An AT) ae
    have kc:=io.ext g1 ae
    refine Ad 1 Z<|AR (vs:=[a1,zI 0]) a1 Z Z Aa<|AR (vs:=[a1,zI 0]) (zI 0) Z Z Aa<|Ac 2 Z<|A0<|Z1 [0,0,0,0,0,0,0,0,0,0,2,0,0,0,0,0,0,0,0,0,0] Z ?_
    obtain⟨bk,hbk⟩:∃l:Sr,l=Dl (Tk 2 f3 f2 ws (I1 aD aD 2)):=⟨_,rfl⟩
    have hn_bk:=el
    rw[← hbk]at hn_bk
    have hbl:bk.length=aD.length:=by rw[hbk,EG,Oe,DQ]
    refine Ad 1 Z ?_
    have kd:¬(0≠((0:Nat):Int)):=(fun h9=>h9 Z)
    refine B5 false Z Z (A6 kd) Aa<|Ad 2 Z ?_
    have ke:¬(0≠((0:Nat):Int)):=(fun h9=>h9 Z)
    refine B5 false Z Z (A6 ke) (Ae (e:=88) Z Z Z)<|Ad 3 Z<|AP (v:=ao) Bm Z hn_adx28.isSl (Ae (e:=92) Z Z Z)<|Ak (p:=zP f6.heap.size) 1 BZ Z Z (Ae (e:=92) Z Z Z)<|Ah (p:=Ao (zP f6.heap.size) 1) (.inr Z) f0 D8 Z (dj.ldp (i:=1) sM) (Ae (e:=92) Z Z Z)<|AP (v:=f0) Id Z ip.isSl (Ae (e:=92) Z Z Z) ?_
    have kf:¬((ad.length:Int)≠(f3.code.length:Int)):=oM
    refine B5 false Z Z (A6 kf) (Ae (e:=92) Z Z Z)<|Ad 3 Z<|AP (v:=a1) Bm Z hn_bk.isSl (Ae (e:=100) Z Z Z)<|Ad 1 Z<|AP (v:=vaD) Bm Z ap.isSl (Ae (e:=100) Z Z Z) ?_
    have kg:¬((bk.length:Int)≠(aD.length:Int)):=oM
    refine B5 false Z Z (A6 kg) (Ae (e:=100) Z Z Z)<|Ac 1 Z<|Ai Z<|A2<|Z1 [0,3,0] Z<|Ad 1 Z<|Au 19 [] [] [vaD,zI ((0:Nat):Int)] Z Z VY Aa (FX _ _ _ _ ap.rd1 oM sD) ?_
    rintro nr ns ⟨iq,rfl,ab,em⟩
    refine⟨_,rfl,ab,?_⟩
    have ir:=ab.size
    have is:=k9.trans ab
    have kh:=ka.trans ab
    have ew:=de.ext (As<|B1 153 6) ab
    have dk:=ap.ext (o1) ab
    have ex:=df.ext (o1) ab
    have ey:=dg.ext ab
    have dl:=dh.ext (o1) ab
    have ez:=di.ext (o1) ab
    have g0:=dj.ext ab
    have hn_adx36:=hn_adx28.ext (o1) ab
    have hn_bkx36:=hn_bk.ext (o1) ab
    have mr:=ip.ext (An AL) ab
    have ms:=kb.ext (An AT) ab
    have mt:=kc.ext g1 ab
    refine Ac 1 Z<|A0<|Z2 Z<|A3 ?_
    refine AV (S:=Nat×Value) (fun⟨k0,vo⟩=>([(20,vo),(21,zI (k0:Int)),(1,vd),(8,vaD),(10,aa),(14,zP f6.heap.size),(16,ao),(18,a1)])) (fun⟨k0,vo⟩ W=>AE w W∧Fr (B8 rI 2) fa.heap.size W.heap.size W.heap vo (FA f3.code ad (IP aD 0) k0)∧Fr (B8 rI 2) w1.heap.size w3.heap.size W.heap vaD aD∧Fr (B8 rI 2) w5.heap.size fg.heap.size W.heap aa ws∧Fr (B8 rI 2) f7.heap.size ff.heap.size W.heap ao ad∧Fr (B8 rI 2) ff.heap.size fa.heap.size W.heap a1 bk∧BX W.heap f6.heap.size [zI i12,f0,f4,f1]∧AE f7 W∧k0≤f3.code.length∧RN [] (Cx 4 Ix) W.heap f0 f3.code∧RN [] (Cx 2 Iy) W.heap f4 f3.grd∧RN [] (B4 rI) W.heap f1 f2∧f6.heap.size<fa.heap.size∧fa.heap.size≤W.heap.size) (fun⟨k0,vo⟩=>f3.code.length-k0) (0,iq) ⟨rfl,rfl,rfl,rfl,rfl,rfl,rfl,rfl,trivial⟩ ⟨is,em.up o1,dk,dl,hn_adx36,hn_bkx36,g0,kh,oM,Ce,Ce,Ce,oM,oM⟩ ?_
    clear jq jr js mi gv jy jz mj gw ju li lj gz e6 c7 c9 ca e7 e9 bq i0 i2 cb cc ea b3 i5 i6 ec ed ee b6 k3 b4 i8 gl eg eh ei b7 k5 b5 ia go ib ic gp id ek ag d9 br da db bs dc el ae de ap df dg dh di em ab ir is ew dk ex ey dl ez
    rintro⟨k0,vo⟩ ρ44 f8 ⟨g2,am,aq,bt,ah,bu,a5,bv,ki,ac,g7,g8,ls,lu⟩
    have lv:w.heap.size≤f8.heap.size:=g2.size
    have mu:=a5.lt
    refine A0<|Z1 [0,0,2,0,0] Z<|Ad 1 Z<|Ak (p:=zP f6.heap.size) 1 BZ Z Z Aa<|Ah (p:=Ao (zP f6.heap.size) 1) (.inr Z) f0 D8 Z (a5.ldp (i:=1) sM) Aa<|AP (v:=f0) Id Z ac.isSl Aa ?_
    by_cases it:(k0:Int)<(f3.code.length:Int)
    ·
      refine AC true Z Z (A5 it) Aa<|Aj<|Af Z<|A2<|A0<|A3<|Z1 [0,2,0,0,0,2,0,0,0,2,0,0,0,2,0,0,0,0,2,0,0,0,2,0,0,0,0] Z ?_
      have hcf:=hK.form k0 oM
      have hsl:=Js (cs:=f3.code) (ad:=ad) (l:=IP aD 0) k0
      have hsc:=Hw aD 0
      refine Ak (p:=zP f6.heap.size) 1 BZ Z Z Aa<|Ah (p:=Ao (zP f6.heap.size) 1) (.inr Z) f0 D8 Z (a5.ldp (i:=1) sM) Aa<|Ad 1 Z<|Az (v:=f0) k0 Id DN Z Z ac.isSl Z sD Aa ?_
      obtain⟨cs48,kj,iu⟩:=ac.get AL Aw.zero (k:=k0) sD
      obtain⟨rfl,mv⟩:=Ep kj
      refine AG (p:=Ay f0 k0 4) 0 Fd Z (iu _<|At.refl [] _) Aa<|Ah (p:=Ao (Ay f0 k0 4) 0) (.inr Z) (zI<|(f3.code.getD k0 Aw.zero).op) AB Z ((iu _<|At.refl [] _).ld (i:=0) Rj) Aa ?_
      by_cases iv:(f3.code.getD k0 Aw.zero).op=((1:Nat):Int)
      ·
        refine Al true Z Z (A5 iv) Aa<|Ad 1 Z<|Ak (p:=zP f6.heap.size) 1 BZ Z Z (Ae (e:=123) Z Z Z)<|Ah (p:=Ao (zP f6.heap.size) 1) (.inr Z) f0 D8 Z (a5.ldp (i:=1) sM) (Ae (e:=123) Z Z Z)<|Ad 1 Z<|Az (v:=f0) k0 Id DN Z Z ac.isSl Z sD (Ae (e:=123) Z Z Z) ?_
        obtain⟨cs50,kk,iw⟩:=ac.get AL Aw.zero (k:=k0) sD
        obtain⟨rfl,mw⟩:=Ep kk
        refine AG (p:=Ay f0 k0 4) 3 D1 Z (iw _<|At.refl [] _) (Ae (e:=123) Z Z Z)<|Ah (p:=Ao (Ay f0 k0 4) 3) (.inr Z) (zI<|(f3.code.getD k0 Aw.zero).num) AB Z ((iw _<|At.refl [] _).ld (i:=3) Rj) (Ae (e:=123) Z Z Z) ?_
        have kl:((0:Nat):Int)≤(f3.code.getD k0 Aw.zero).num:=(zH<|hcf.i1 Ce)
        refine D5 true Z Z (A5 kl) (Ae (e:=123) Z Z Z)<|Ad 2 Z<|Ak (p:=zP f6.heap.size) 1 BZ Z Z (Ae (e:=132) Z Z Z)<|Ah (p:=Ao (zP f6.heap.size) 1) (.inr Z) f0 D8 Z (a5.ldp (i:=1) sM) (Ae (e:=132) Z Z Z)<|Ad 1 Z ?_
        refine Az (v:=f0) k0 Id DN Z Z ac.isSl Z sD (Ae (e:=132) Z Z Z) ?_
        obtain⟨cs52,km,ix⟩:=ac.get AL Aw.zero (k:=k0) sD
        obtain⟨rfl,mx⟩:=Ep km
        refine AG (p:=Ay f0 k0 4) 3 D1 Z (ix _<|At.refl [] _) (Ae (e:=132) Z Z Z)<|Ah (p:=Ao (Ay f0 k0 4) 3) (.inr Z) (zI<|(f3.code.getD k0 Aw.zero).num) AB Z ((ix _<|At.refl [] _).ld (i:=3) Rj) (Ae (e:=132) Z Z Z)<|Ad 1 Z<|AP (v:=vo) Bm Z am.isSl (Ae (e:=132) Z Z Z) ?_
        have kn:(f3.code.getD k0 Aw.zero).num<(((FA f3.code ad (IP aD 0) k0).length:Nat):Int):=(zH<|hcf.i1 Ce)
        refine AC true Z Z (A5 kn) (Ae (e:=132) Z Z Z)<|Ac 1 Z<|Af Z<|AW _ [0,0,1,0,0,0,1,0,0,0,1,3,0] mixed (by kernel_rfl) ?_
        have hcf:=hK.form k0 oM
        have hsl:=Js (cs:=f3.code) (ad:=ad) (l:=IP aD 0) k0
        have hsc:=Hw aD 0
        refine Ad 1 Z<|Ak (p:=zP f6.heap.size) 1 BZ Z Z Aa<|Ah (p:=Ao (zP f6.heap.size) 1) (.inl Z) f0 D8 Z (a5.ldp (i:=1) sM) Aa<|Ad 1 Z<|Az (v:=f0) k0 Id DN Z Z ac.isSl Z sD Aa ?_
        obtain⟨cs54,ko,iy⟩:=ac.get AL Aw.zero (k:=k0) sD
        obtain⟨rfl,kp⟩:=Ep ko
        refine AG (p:=Ay f0 k0 4) 3 D1 Z (iy _<|At.refl [] _) Aa<|Ah (p:=Ao (Ay f0 k0 4) 3) (.inl Z) (zI<|(f3.code.getD k0 Aw.zero).num) AB Z ((iy _<|At.refl [] _).ld (i:=3) Rj) Aa<|Ad 2 Z<|Az (v:=ao) k0 Bm BC Z Z ah.isSl Z sD Aa ?_
        refine Ah (p:=Ay ao k0 1) (.inl Z) (zI<|ad.getD k0 0) AB Z (ah.rd1.getI sD).1 Aa ?_
        refine Au 20 [] [] [vo,zI<|(f3.code.getD k0 Aw.zero).num,zI<|ad.getD k0 0] Z Z UW Aa (Ey _ _ _ _ _ am.rd1 kp.2.2.2 (ah.rd1.getI sD).2 oM oM) ?_
        rintro nt nu ⟨iz,rfl,aj,bw⟩
        refine⟨_,rfl,aj,?_⟩
        replace aj:=aj.of_drew
        have lw:=aj.size
        have kq:=g2.trans aj
        have kr:=bv.trans aj
        have dq:=aq.ext (o1) aj
        have dt:=bt.ext (o1) aj
        have du:=ah.ext (o1) aj
        have dv:=bu.ext (o1) aj
        have dw:=a5.ext aj
        have my:=ac.ext (An AL) aj
        have mz:=g7.ext (An AT) aj
        have n0:=g8.ext g1 aj
        replace bw:=bw.low (B':=f8.heap.size)<|A7 _
        refine Ac 1 Z<|Ab _ [0,0,0] Z<|Ad 1 Z<|AM ((k0+1:Nat):Int) Z Z (Ba oM sD) Aa<|Ac 1 Z ?_
        exact⟨(k0+1,iz),_,rfl,zR,⟨kq,(by first|(rw[N9 Ce];exact(bw.up o1).low oM)|(rw[Na Ce];exact(bw.up o1).low oM)),dq,dt,du,dv,dw,kr,oM,Ce,Ce,Ce,oM,oM⟩,zD⟩
      refine Al false Z Z (A6 iv) Aa<|Ac 20 Z<|Ai Z<|A2<|Ab _ [0,0,0] Z<|Ad 1 Z<|AM ((k0+1:Nat):Int) Z Z (Ba oM sD) Aa<|Ac 1 Z ?_
      exact⟨(k0+1,vo),_,rfl,zR,⟨g2,(by first|(rw[N9 Ce];exact am.up o1)|(rw[Na Ce];exact am.up o1)),aq,bt,ah,bu,a5,bv,oM,Ce,Ce,Ce,oM,oM⟩,zD⟩
    refine AC false Z Z (A6 it) Aa<|Aj<|Ai Z<|A4<|Av<|Av<|Aq<|Z1 [0,3,0] Z ?_
    have n1:k0=f3.code.length:=by omega
    refine Ad 1 Z<|Au 19 [] [] [vaD,zI ((0:Nat):Int)] Z Z VY Aa (FX _ _ _ _ aq.rd1 oM sD) ?_
    rintro nv nx ⟨j0,rfl,ak,en⟩
    refine⟨_,rfl,ak,?_⟩
    have j1:=ak.size
    have j2:=g2.trans ak
    have ks:=bv.trans ak
    have b8:=am.ext (o1) ak
    have b9:=aq.ext (o1) ak
    have ba:=bt.ext (o1) ak
    have dx:=ah.ext (o1) ak
    have bb:=bu.ext (o1) ak
    have bc:=a5.ext ak
    have n2:=ac.ext (An AL) ak
    have n3:=g7.ext (An AT) ak
    have n4:=g8.ext g1 ak
    refine Ac 1 Z<|A0<|Z2 Z<|A3 ?_
    refine AV (S:=Nat×Value×Sr) (fun⟨i,vp1,u⟩=>([(22,vp1),(23,zI (i:Int)),(1,vd),(8,vaD),(10,aa),(14,zP f6.heap.size),(18,a1),(20,vo)])) (fun⟨i,vp1,u⟩ W=>AE w W∧Fr (B8 rI 2) f8.heap.size W.heap.size W.heap vp1 u∧Fr (B8 rI 2) fa.heap.size f8.heap.size W.heap vo (FA f3.code ad (IP aD 0) k0)∧Fr (B8 rI 2) w1.heap.size w3.heap.size W.heap vaD aD∧Fr (B8 rI 2) w5.heap.size fg.heap.size W.heap aa ws∧Fr (B8 rI 2) ff.heap.size fa.heap.size W.heap a1 bk∧BX W.heap f6.heap.size [zI i12,f0,f4,f1]∧AE f7 W∧i≤f2.length∧Oj f3.code f2 aD.length i u∧RN [] (Cx 4 Ix) W.heap f0 f3.code∧RN [] (Cx 2 Iy) W.heap f4 f3.grd∧RN [] (B4 rI) W.heap f1 f2∧f6.heap.size<f8.heap.size∧f8.heap.size≤W.heap.size) (fun⟨i,vp1,u⟩=>f2.length-i) (0,j0,IP aD ((0:Nat):Int)) ⟨rfl,rfl,rfl,rfl,rfl,rfl,rfl,rfl,trivial⟩ ⟨j2,en.up o1,b8,b9,ba,bb,bc,ks,oM,VV,Ce,Ce,Ce,oM,oM⟩ ?_
    clear i9 gn bv a5 bu ah bt aq am en ak j1 j2 b8 b9 ba dx bb bc
    rintro⟨i,vp1,u⟩ ρ67 fb ⟨gq,bx,bz,ar,c0,c1,a6,c2,kt,ku,dm,dn,au,lx,ly⟩
    have lz:w.heap.size≤fb.heap.size:=gq.size
    have n5:=a6.lt
    refine A0<|Z1 [0,0,2,0,0] Z<|Ad 1 Z<|Ak (p:=zP f6.heap.size) 3 FR Z Z Aa<|Ah (p:=Ao (zP f6.heap.size) 3) (.inr Z) f1 BA Z (a6.ldp (i:=3) sM) Aa<|AP (v:=f1) Bm Z au.slL Aa ?_
    by_cases j3:(i:Int)<(f2.length:Int)
    ·
      refine AC true Z Z (A5 j3) Aa<|Aj<|Af Z<|A2<|A0<|A3<|A0<|AW _ [1,0,1,0,0,1,3,0,0,0,0,0] mixed (by kernel_rfl)<|AO (p:=zP f6.heap.size) (.inl Z) [zI i12,f0,f4,f1] Cz Z (fun fc dp=>LD.of_box<|BX.ext (w:=fb.drew) a6 dp) Z Aa<|Ak (p:=zP f6.heap.size) 3 FR Z Z Aa<|Ah (p:=Ao (zP f6.heap.size) 3) (.inl Z) f1 BA Z (a6.ldp (i:=3) sM) Aa<|Ad 1 Z ?_
      refine Az (v:=f1) i Bm BC Z Z au.slL Z sD Aa ?_
      have j4:=RN.getI (w:=fb) (k:=i) au sD
      refine Ah (p:=Ay f1 i 1) (.inl Z) (zI<|f2.getD i 0) AB Z (j4.1 _ (At.refl _ _).drew) Aa<|Au 21 [] [] [.agg #[zI i12,f0,f4,f1],zI<|f2.getD i 0] Z Z YC Aa (IG _ aD (i12) f0 f4 f1 (f3) (f2) _ c8 dm dn au j4.2 oM hTR (by exact hK.out i oM)) ?_
      rintro ny fo ⟨a9,f5,rfl,af,c3,kv⟩
      refine⟨_,rfl,af,?_⟩
      replace af:=af.of_drew
      have m0:=af.size
      have kw:=gq.trans af
      have kx:=c2.trans af
      have bd:=bx.ext (o1) af
      have be:=bz.ext (o1) af
      have bf:=ar.ext (o1) af
      have bg:=c0.ext (o1) af
      have bh:=c1.ext (o1) af
      have bi:=a6.ext af
      have n6:=dm.ext (An AL) af
      have n7:=dn.ext (An AT) af
      have n8:=au.ext g1 af
      replace c3:=c3.low (B':=fb.heap.size)<|A7 _
      refine Ad 1 Z<|AR (vs:=[a9,zI 0]) a9 Z Z Aa<|AR (vs:=[a9,zI 0]) (zI 0) Z Z Aa<|Ac 2 Z<|A0<|Z1 [0,0] Z<|Ad 1 Z ?_
      have ky:¬(0≠((0:Nat):Int)):=(fun h9=>h9 Z)
      refine B5 false Z Z (A6 ky) Aa<|Aj<|Ai Z<|A2<|Z2 Z<|A3 ?_
      refine AV (S:=Nat×Value×Sr) (fun⟨k,vp,u2⟩=>([(22,vp),(26,zI (k:Int)),(1,vd),(8,vaD),(10,aa),(14,zP f6.heap.size),(18,a1),(20,vo),(23,zI (i:Int)),(24,a9)])) (fun⟨k,vp,u2⟩ W=>AE w W∧Fr (B8 rI 2) f8.heap.size W.heap.size W.heap vp u2∧Fr (B8 rI 2) fa.heap.size f8.heap.size W.heap vo (FA f3.code ad (IP aD 0) k0)∧Fr (B8 rI 2) w1.heap.size w3.heap.size W.heap vaD aD∧Fr (B8 rI 2) w5.heap.size fg.heap.size W.heap aa ws∧Fr (B8 rI 2) ff.heap.size fa.heap.size W.heap a1 bk∧Fr (B8 rI 2) fb.heap.size fo.heap.size W.heap a9 f5∧BX W.heap f6.heap.size [zI i12,f0,f4,f1]∧AE f7 W∧k≤f5.length∧P0 f3.code f2 aD.length i f5 k u2∧RN [] (Cx 4 Ix) W.heap f0 f3.code∧RN [] (Cx 2 Iy) W.heap f4 f3.grd∧RN [] (B4 rI) W.heap f1 f2∧f6.heap.size<f8.heap.size∧f8.heap.size≤W.heap.size) (fun⟨k,vp,u2⟩=>f5.length-k) (0,vp1,u) ⟨rfl,rfl,rfl,rfl,rfl,rfl,rfl,rfl,rfl,rfl,trivial⟩ ⟨kw,bd.up o1,be,bf,bg,bh,c3,bi,kx,oM,(by exact(by assumption:Oj f3.code f2 aD.length i u).j),Ce,Ce,Ce,oM,oM⟩ ?_
      clear c2 a6 c1 c0 ar bz bx c3 af bd be bf bg bh bi
      rintro⟨k,vp,u2⟩ ρ81 fp ⟨gr,cd,eo,ep,eq,er,a7,ce,es,kz,l0,j5,j6,j7,m1,m2⟩
      have m3:w.heap.size≤fp.heap.size:=gr.size
      have n9:=ce.lt
      refine A0<|Z1 [0,0,0,0] Z<|Ad 2 Z<|AP (v:=a9) Bm Z a7.isSl Aa ?_
      by_cases j8:(k:Int)<(f5.length:Int)
      ·
        refine AC true Z Z (A5 j8) Aa<|Aj<|Af Z<|A2<|A0<|A3<|A0<|Z1 [0,0,0,2,0,0,0,0,0,2,0,0,0,0] Z ?_
        have hlr:=(by assumption:SF f3.code (f2.getD i 0) f5).rng hK.form (k:=k) oM
        have hul:u2.length=aD.length:=(by assumption:P0 _ _ _ _ _ _ u2).1
        refine Ad 2 Z<|Az (v:=a9) k Bm BC Z Z a7.isSl Z sD Aa ?_
        refine Ah (p:=Ay a9 k 1) (.inr Z) (zI<|f5.getD k 0) AB Z (a7.rd1.getI sD).1 Aa ?_
        have l1:¬(f5.getD k 0<((0:Nat):Int)):=oM
        refine AC false Z Z (A6 l1) Aa<|Ad 3 Z<|Az (v:=a9) k Bm BC Z Z a7.isSl Z sD (Ae (e:=187) Z Z Z) ?_
        refine Ah (p:=Ay a9 k 1) (.inr Z) (zI<|f5.getD k 0) AB Z (a7.rd1.getI sD).1 (Ae (e:=187) Z Z Z) (Ad 1 Z<|AP (v:=vp) Bm Z cd.isSl (Ae (e:=187) Z Z Z) ?_)
        have l2:¬((u2.length:Int)≤f5.getD k 0):=oM
        refine D5 false Z Z (A6 l2) (Ae (e:=187) Z Z Z)<|Ac 1 Z<|Ai Z<|A2<|Ab _ [0,0,0,0,2,3,0] Z ?_
        have hlr:=(by assumption:SF f3.code (f2.getD i 0) f5).rng hK.form (k:=k) oM
        have hul:u2.length=aD.length:=(by assumption:P0 _ _ _ _ _ _ u2).1
        have na:=(by assumption:SF f3.code (f2.getD i 0) f5).2
        refine Ad 3 Z<|Az (v:=a9) k Bm BC Z Z a7.isSl Z sD Aa ?_
        refine Ah (p:=Ay a9 k 1) (.inr Z) (zI<|f5.getD k 0) AB Z (a7.rd1.getI sD).1 Aa ?_
        refine Au 20 [] [] [vp,zI<|f5.getD k 0,zI ((1:Nat):Int)] Z Z UW Aa (Ey _ _ _ _ _ cd.rd1 (a7.rd1.getI sD).2 oM oM oM) ?_
        rintro nz o0 ⟨j9,rfl,an,gs⟩
        refine⟨_,rfl,an,?_⟩
        have m4:=an.size
        have l3:=gr.trans an
        have l4:=es.trans an
        have dy:=eo.ext (o1) an
        have dz:=ep.ext (o1) an
        have e0:=eq.ext (o1) an
        have e2:=er.ext (o1) an
        have e4:=a7.ext (o1) an
        have e5:=ce.ext an
        have nb:=j5.ext (An AL) an
        have nc:=j6.ext (An AT) an
        have nd:=j7.ext g1 an
        refine Ac 1 Z<|Ab _ [0,0,0] Z<|Ad 1 Z<|AM ((k+1:Nat):Int) Z Z (Ba oM sD) Aa<|Ac 1 Z ?_
        exact⟨(k+1,j9,u2.set (f5.getD k 0).toNat (md (u2.getD (f5.getD k 0).toNat 0+((1:Nat):Int)))),_,rfl,zR,⟨l3,(gs.up o1).low oM,dy,dz,e0,e2,e4,e5,l4,oM,(by exact(by assumption:P0 _ _ _ _ _ k u2).step oM oM hlr),Ce,Ce,Ce,oM,oM⟩,zD⟩
      refine AC false Z Z (A6 j8) Aa<|Aj<|Ai Z<|A4<|Av<|Av<|Aq<|Ab _ [0,0,0] Z<|Ad 1 Z<|AM ((i+1:Nat):Int) Z Z (Ba oM sD) Aa<|Ac 1 Z ?_
      exact⟨(i+1,vp,u2),_,rfl,zR,⟨gr,cd.up o1,eo,ep,eq,er,ce,es,oM,(by exact P0.nx2 Ce oM Ce hKc hK.form),Ce,Ce,Ce,oM,oM⟩,zD⟩
    refine AC false Z Z (A6 j3) Aa<|Aj<|Ai Z<|A4<|Av<|Av<|Aq<|Z1 [2,0,3,0,0,0,0,0] Z ?_
    have hUs:Oj f3.code f2 aD.length f2.length u:=by have h9:i=f2.length:=oM;rw[← h9];assumption
    have gt:=hRc.rgX0
    have hul:=hUs.1
    refine AO (p:=zP f6.heap.size) (.inr Z) [zI i12,f0,f4,f1] Cz Z (fun fc dp=>LD.of_box<|BX.ext (w:=fb) a6 dp) Z Aa<|Ad 1 Z<|Au 14 [] [] [.agg #[zI i12,f0,f4,f1],vaD] Z Z VW Aa (G7 _ aD (i12) f0 f4 f1 (f3) (f2) _ _ c8 dm dn au ar.rd1 oM hTR (by exact⟨rfl,hla.2⟩)) ?_
    rintro o4 fq ⟨av,rfl,al,et⟩
    refine⟨_,rfl,al,?_⟩
    have m5:=al.size
    have l5:=gq.trans al
    have l6:=c2.trans al
    have bj:=bx.ext (o1) al
    have bl:=bz.ext (o1) al
    have bm:=ar.ext (o1) al
    have bn:=c0.ext (o1) al
    have bo:=c1.ext (o1) al
    have bp:=a6.ext al
    have ne:=dm.ext (An AL) al
    have nf:=dn.ext (An AT) al
    have ng:=au.ext g1 al
    refine Ad 1 Z<|AR (vs:=[av,zI<|GA aD f3.code]) av Z Z Aa<|AR (vs:=[av,zI<|GA aD f3.code]) (zI<|GA aD f3.code) Z Z Aa<|Ac 2 Z<|A0<|Z2 Z<|A3 ?_
    refine AV (S:=Nat) (fun k=>([(29,zI (k:Int)),(1,vd),(8,vaD),(10,aa),(14,zP f6.heap.size),(18,a1),(20,vo),(22,vp1),(27,av),(28,zI<|GA aD f3.code)])) (fun k W=>AE w W∧Fr (B8 rI 2) f8.heap.size fb.heap.size W.heap vp1 u∧Fr (B8 rI 2) fa.heap.size f8.heap.size W.heap vo (FA f3.code ad (IP aD 0) k0)∧Fr (B8 rI 2) w1.heap.size w3.heap.size W.heap vaD aD∧Fr (B8 rI 2) w5.heap.size fg.heap.size W.heap aa ws∧Fr (B8 rI 2) ff.heap.size fa.heap.size W.heap a1 bk∧Fr (B8 rI 2) fb.heap.size fq.heap.size W.heap av (QE aD f3.code f2)∧BX W.heap f6.heap.size [zI i12,f0,f4,f1]∧AE f7 W∧k≤aD.length∧RN [] (Cx 4 Ix) W.heap f0 f3.code∧RN [] (Cx 2 Iy) W.heap f4 f3.grd∧RN [] (B4 rI) W.heap f1 f2) (fun k=>aD.length-k) 0 ⟨rfl,rfl,rfl,rfl,rfl,rfl,rfl,rfl,rfl,rfl,trivial⟩ ⟨l5,bj,bl,bm,bn,bo,et,bp,l6,oM,Ce,Ce,Ce⟩ ?_
    clear c2 a6 c1 c0 ar bz bx et al bj bl bm bn bo bp
    rintro k ρ98 fl ⟨eu,c4,cf,cg,ch,ci,cj,c5,ck,l7,g9,ga,gb⟩
    have m6:w.heap.size≤fl.heap.size:=eu.size
    have nh:=c5.lt
    refine A0<|Z1 [0,0,0,0] Z<|Ad 2 Z<|AP (v:=vaD) Bm Z cg.isSl Aa ?_
    by_cases gc:(k:Int)<(aD.length:Int)
    ·
      refine AC true Z Z (A5 gc) Aa<|Aj<|Af Z<|A2<|A0<|A3<|A0<|Z1 [0,0,0,2,0] Z<|Ad 2 Z<|Az (v:=vp1) k Bm BC Z Z c4.isSl Z sD Aa ?_
      refine Ah (p:=Ay vp1 k 1) (.inr Z) (zI<|u.getD k 0) AB Z (c4.rd1.getI sD).1 Aa ?_
      by_cases gd:((0:Nat):Int)<u.getD k 0
      ·
        refine BH true Z Z (A5 gd) Aa<|Aj<|Af Z<|A4<|Av<|Aq<|Ab _ [0,0,0] Z<|Ad 1 Z<|AM ((k+1:Nat):Int) Z Z (Ba oM sD) Aa<|Ac 1 Z ?_
        exact⟨k+1,_,rfl,zR,⟨eu,c4,cf,cg,ch,ci,cj,c5,ck,oM,Ce,Ce,Ce⟩,zD⟩
      refine BH false Z Z (A6 gd) Aa<|Aj<|Ai Z<|A2<|A0<|AW _ [1,0,0,0,3,0,3,3,0,0,0,0,0] mixed (by kernel_rfl)<|AO (p:=zP f6.heap.size) (.inl Z) [zI i12,f0,f4,f1] Cz Z (fun fc dp=>LD.of_box<|BX.ext (w:=fl.drew) c5 dp) Z Aa<|Ad 3 Z ?_
      refine Au 22 [] [] [vd,zI ((5:Nat):Int),zI ((9:Nat):Int)] Z Z YD Aa (Mp _ _ _ _ _ (hds.ext CC eu.drew) oM oM sD) ?_
      rintro fr fs ⟨rfl,a0⟩
      refine⟨_,rfl,a0,?_⟩
      replace a0:=a0.of_drew
      have l8:=a0.size
      have ja:=eu.trans a0
      have jb:=ck.trans a0
      have cm:=c4.ext (o1) a0
      have cn:=cf.ext (o1) a0
      have aw:=cg.ext (o1) a0
      have co:=ch.ext (o1) a0
      have cp:=ci.ext (o1) a0
      have cq:=cj.ext (o1) a0
      have cr:=c5.ext a0
      have jc:=g9.ext (An AL) a0
      have jd:=ga.ext (An AT) a0
      have je:=gb.ext g1 a0
      refine AM (wr (((1:Nat):Int)+(Ll ds ((5:Nat):Int) ((9:Nat):Int)))) Z Z Z Aa<|Au 20 [] [] [vaD,zI (k:Int),zI<|wr (((1:Nat):Int)+(Ll ds ((5:Nat):Int) ((9:Nat):Int)))] Z Z UW Aa (Ey _ _ _ _ _ aw.rd1 oM (KI _) oM oM) ?_
      rintro ft fu ⟨gu,rfl,a2,g3⟩
      refine⟨_,rfl,a2,?_⟩
      have l9:=a2.size
      have jf:=ja.trans a2
      have jg:=jb.trans a2
      have ct:=cm.ext (o1) a2
      have cu:=cn.ext (o1) a2
      have cv:=aw.ext (o1) a2
      have cw:=co.ext (o1) a2
      have cx:=cp.ext (o1) a2
      have cy:=cq.ext (o1) a2
      have cz:=cr.ext a2
      have ge:=jc.ext (An AL) a2
      have gf:=jd.ext (An AT) a2
      have gg:=je.ext g1 a2
      refine Au 14 [] [] [.agg #[zI i12,f0,f4,f1],gu] Z Z VW Aa (G7 _ aD (i12) f0 f4 f1 (f3) (f2) _ _ c8 ge gf gg g3.rd1 oM hTR (by exact⟨by rw[z6],P1 hla.2⟩)) ?_
      rintro fv fw ⟨c6,rfl,a3,g4⟩
      refine⟨_,rfl,a3,?_⟩
      have lc:=a3.size
      have gh:=jf.trans a3
      have gi:=jg.trans a3
      have ax:=ct.ext (o1) a3
      have ay:=cu.ext (o1) a3
      have az:=cv.ext (o1) a3
      have b0:=cw.ext (o1) a3
      have a8:=cx.ext (o1) a3
      have ai:=cy.ext (o1) a3
      have b1:=cz.ext a3
      have jh:=ge.ext (An AL) a3
      have ji:=gf.ext (An AT) a3
      have jj:=gg.ext g1 a3
      refine Ad 1 Z<|AR (vs:=[c6,zI<|GA (aD.set (k:Int).toNat<|md (aD.getD (k:Int).toNat 0+(wr (((1:Nat):Int)+(Ll ds ((5:Nat):Int) ((9:Nat):Int)))))) f3.code]) c6 Z Z Aa<|AR (vs:=[c6,zI<|GA (aD.set (k:Int).toNat<|md (aD.getD (k:Int).toNat 0+(wr (((1:Nat):Int)+(Ll ds ((5:Nat):Int) ((9:Nat):Int)))))) f3.code]) (zI<|GA (aD.set (k:Int).toNat<|md (aD.getD (k:Int).toNat 0+(wr (((1:Nat):Int)+(Ll ds ((5:Nat):Int) ((9:Nat):Int)))))) f3.code) Z Z Aa<|Ac 2 Z<|Z1 [0,0,0,2,0,0,0,0,0,0,0,3,0,0,0] Z<|Ad 2 Z ?_
      refine Az (v:=a1) k Bm BC Z Z a8.isSl Z sD Aa ?_
      refine Ah (p:=Ay a1 k 1) (.inr Z) (zI<|bk.getD k 0) AB Z (a8.rd1.getI sD).1 Aa ?_
      have jk:¬(bk.getD k 0≠((0:Nat):Int)):=(fun h9=>h9 (by rw[hbk];exact hUs.back hTR oM Ce))
      refine B5 false Z Z (A6 jk) Aa<|Ad 2 Z ?_
      by_cases gj:GA (aD.set (k:Int).toNat (md (aD.getD (k:Int).toNat 0+(wr (((1:Nat):Int)+(Ll ds ((5:Nat):Int) ((9:Nat):Int))))))) f3.code=((0:Nat):Int)
      ·
        refine Al true Z Z (A5 gj) (Ae (e:=235) Z Z Z)<|Ad 3 Z<|Au 17 [] [] [c6,av] Z Z VX (Ae (e:=238) Z Z Z) (GF _ _ _ _ _ g4.rd1 ai.rd1) ?_
        rintro fx fy ⟨rfl,a4⟩
        refine⟨_,rfl,a4,?_⟩
        have le:=a4.size
        have jl:=gh.trans a4
        have jm:=gi.trans a4
        have d0:=ax.ext (o1) a4
        have d1:=ay.ext (o1) a4
        have d2:=az.ext (o1) a4
        have d3:=b0.ext (o1) a4
        have d4:=a8.ext (o1) a4
        have d5:=ai.ext (o1) a4
        have d6:=b1.ext a4
        have m7:=jh.ext (An AL) a4
        have m8:=ji.ext (An AT) a4
        have m9:=jj.ext g1 a4
        rw[show(decide ((QE (aD.set (k:Int).toNat (md (aD.getD (k:Int).toNat 0+(wr (((1:Nat):Int)+(Ll ds ((5:Nat):Int) ((9:Nat):Int))))))) f3.code f2)=(QE aD f3.code f2)))=true from A5 (hUs.same hTR oM Ce gt Ce)]
        refine Bq false Z Z (Ae (e:=238) Z Z Z)<|Ac 2 Z<|Ai Z<|A2<|Ab _ [0,0,0] Z<|Ad 1 Z<|AM ((k+1:Nat):Int) Z Z (Ba oM sD) Aa<|Ac 1 Z ?_
        exact⟨k+1,_,rfl,zR,⟨jl,d0,d1,d2,d3,d4,d5,d6,jm,oM,Ce,Ce,Ce⟩,zD⟩
      refine Al false Z Z (A6 gj) (Ae (e:=235) Z Z Z)<|Ac 7 Z<|Ai Z<|A2<|Ab _ [0,0,0] Z<|Ad 1 Z<|AM ((k+1:Nat):Int) Z Z (Ba oM sD) Aa<|Ac 1 Z ?_
      exact⟨k+1,_,rfl,zR,⟨gh,ax,ay,az,b0,a8,ai,b1,gi,oM,Ce,Ce,Ce⟩,zD⟩
    refine AC false Z Z (A6 gc) Aa<|Aj<|Ai Z<|A4<|Av<|Av<|Aq<|Z1 [0,0,0,0,0,0,0,0,0,0,0,0,3,0,0] Z<|Ad 1 Z ?_
    have jn:GA aD f3.code=((0:Nat):Int):=gt
    refine Al true Z Z (A5 jn) Aa<|Ad 2 Z<|AP (v:=av) Bm Z cj.isSl (Ae (e:=247) Z Z Z)<|Ad 1 Z<|AP (v:=aa) Bm Z ch.isSl (Ae (e:=247) Z Z Z) ?_
    have jo:(((QE aD f3.code f2).length:Nat):Int)=(ws.length:Int):=(by rw[show(QE aD f3.code f2).length=f2.length from SI gt];omega)
    refine Al true Z Z (A5 jo) (Ae (e:=247) Z Z Z)<|Ad 4 Z<|Au 17 [] [] [vo,a1] Z Z VX (Ae (e:=254) Z Z Z) (GF _ _ _ _ _ cf.rd1 ci.rd1) ?_
    rintro fz nj ⟨rfl,b2⟩
    refine⟨_,rfl,b2,?_⟩
    have lf:=b2.size
    have jp:=eu.trans b2
    have ma:=ck.trans b2
    have mb:=g9.ext (An AL) b2
    have mc:=ga.ext (An AT) b2
    have me:=gb.ext g1 b2
    rw[show(decide ((FA f3.code ad (IP aD 0) k0)=bk))=true from A5 (by rw[n1,had,hbk];exact hTR.sums)]
    exact Ac 2 Z<|A1<|Ag [4] Z (.bool true) Z ⟨rfl,jp⟩
  exact Af (by first|rfl|exact zW lg)<|Z2 Z<|A1<|Am<|Ag [4] Z (.bool true) Z ⟨rfl,jv⟩
end
end Go.Proofs.YtemfgblmfahllaaGreat
