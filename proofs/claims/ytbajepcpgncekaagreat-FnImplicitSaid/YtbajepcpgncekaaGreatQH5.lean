/- Ya, Yb, Yc, Yd, Ye, Yf, Yg, Yh, Yi, Sm, Yl: texts of this claim, joined; what the claim does not come to is left out. -/
import Derived.Test.YtbajepcpgncekaaGreatQH4
import Derived.Test.YtbajepcpgncekaaGreatProg
set_option linter.unusedVariables false
set_option linter.unusedSimpArgs false
namespace Go.Proofs.YtbajepcpgncekaaGreat
open Go Go.RowKit
section
set_option maxHeartbeats 4000000
set_option maxRecDepth 100000
attribute [local irreducible] LW
theorem Sw {p:Prop}(h:p:=by simp only[z9,zb];unfold maxLen;omega):p:=h
theorem Sx {p:Prop}(h:p:=by simp only[z9,zb];omega):p:=h
theorem LH {p:Prop}(h:p:=by rw[HU];omega):p:=h
theorem D5 (w:World)(S:List Nat)(g:Nat)(vp:Value)(ip:Int)(s0:Nat)(c0:Int)(T:Tp)(c:AM)(v:Int)(hS:∀b∈S,b<w.heap.size)(hgS:g∈S)(hR0:UV 69 208 2 S g w.heap vp ip T s0 c0)(_hip:BI ip)(hln:T.code.length≤4000∧T.vals.length≤4000)(hc:ZS c)(_hv:BI v)  :
  Calls Tryz.prog 101 #[zP g,(.agg #[(zI c.op),(zI c.a),(zI c.b),(zI c.num)]),zI v] w (fun e w'=>∃S':List Nat,e=.returned (zI (T.vals.length:Int))∧GH S S' w w'∧UV 69 208 2 S' g w'.heap vp ip (T.put c v) s0 c0):=by
 refine At [zP g,.agg #[zI c.op,zI c.a,zI c.b,zI c.num],zI v] 35 Tryz.func101 Z Z sM ?_
 have dr:Az S w w:=Az.refl S w
 obtain⟨rc0,rg0,rv0,bt,d5⟩:=hR0
 have gd:=bt.lt
 have hG0:GH S S w w:=GH.refl hS
 have hml:=CT.len d5
 refine qS [3,0] Z ?_
 have eo:=bt.lt
 refine C8 (cs:=#[zI c.op,zI c.a,zI c.b,zI c.num]) Z Ac fun w1 ay ep bu=>?_
 have ds:w.heap.size≤w1.heap.size:=ay.size
 have d6:Az S w w1:=dr.ext ay
 have a7:=bt.ext ay
 have dt:=CT.ext d5 ay
 have d7:=hG0.ext ay
 replace bu:BX w1.heap w.heap.size [zI c.op,zI c.a,zI c.b,zI c.num]:=bu
 refine Ae 1 Z<|A0 ?_
 obtain⟨Fc,Fg,Fv,hOc,hOg,hOv,hdj,hgn,hSc,hSg,hSv⟩:=id dt
 letI:JR:=UU (Fc++Fv)
 refine Jx.jS _ [0,0,0,0,0,0,1,1,3,3,0,0,0,1,0,3,3,0,0,0,4,0,0,4] [0,1,2,3,4,5,6,7,10,11,12,13,14] 8 9 [15,16,17,18,19,20,21,22,23] 15 [9,16,17,18,19,20,21,22,23] 15 [8,9,16,17,18,19,20,21,22,23] [_,_,_,_,_,_,_,_,_,_,_,_,_] [0,0,0,0,0,0,1,1,0,0,0,1,0] _ _ [_,_,_,_,_,_,_,_,_] [3,3,0,0,0,4,0,0,4] _ [_,_,_,_,_,_,_,_,_] [3,3,0,0,0,4,0,0,4] _ [_,_,_,_,_,_,_,_,_,_] [3,3,3,0,0,0,4,0,0,4] mixed (by kernel_rfl) ⟨rfl,rfl,⟨rfl,rfl,⟨rfl,rfl,⟨rfl,rfl,⟨rfl,rfl,⟨rfl,rfl,⟨rfl,rfl,⟨rfl,rfl,⟨rfl,rfl,⟨rfl,rfl,⟨rfl,rfl,⟨rfl,rfl,⟨rfl,rfl,trivial⟩⟩⟩⟩⟩⟩⟩⟩⟩⟩⟩⟩⟩ ⟨rfl,rfl,trivial⟩ ⟨rfl,rfl,⟨rfl,rfl,⟨rfl,rfl,⟨rfl,rfl,⟨rfl,rfl,⟨rfl,rfl,⟨rfl,rfl,⟨rfl,rfl,⟨rfl,rfl,⟨rfl,rfl,trivial⟩⟩⟩⟩⟩⟩⟩⟩⟩⟩ ⟨rfl,rfl,⟨rfl,rfl,⟨rfl,rfl,⟨rfl,rfl,⟨rfl,rfl,⟨rfl,rfl,⟨rfl,rfl,⟨rfl,rfl,⟨rfl,rfl,⟨rfl,rfl,trivial⟩⟩⟩⟩⟩⟩⟩⟩⟩⟩ ⟨rfl,rfl,⟨rfl,rfl,⟨rfl,rfl,⟨rfl,rfl,⟨rfl,rfl,⟨rfl,rfl,⟨rfl,rfl,⟨rfl,rfl,⟨rfl,rfl,⟨rfl,rfl,⟨rfl,rfl,trivial⟩⟩⟩⟩⟩⟩⟩⟩⟩⟩⟩ ?_
 refine Jx.f8 (zP g) Z Ac<|Jx.f8 (zP g) Z Ac<|Jx.f8 (zP g) Z Ac<|Jx.j1<|Be Z Ac<|Ai ?_
 refine Jx.Aq (p:=zP g) 1 GU Z Z Ac<|Jx.Aq (p:=AA (zP g) 1) (b:=g) (o:=1) 1 IN Z Z Ac<|Jx.nQ (p:=AA (AA (zP g) 1) 1) rc0 Re Z (fun wj hj=>(BX.chg (w:=w1.drew) (F:=Fc++Fv) a7 hj fun hm=>(zi.1 hm).elim hgn.1 hgn.2.2).ldp (i:=2) sM) Ac<|Jx.jH (p:=zP w.heap.size) [zI c.op,zI c.a,zI c.b,zI c.num] Ig Z (fun wj hj=>LD.of_box<|BX.chg (w:=w1.drew) (F:=Fc++Fv) bu hj fun hm=>(zi.1 hm).elim (fun h9=>zH<|hS _ (hSc _ h9)) fun h9=>zH<|hS _ (hSv _ h9)) Z Ac<|Jx.f8 (zP g) Z Ac ?_
 refine Jx.j1<|Be Z Ac<|Ai ?_
 refine Jx.Aq (p:=zP g) 5 Ed Z Z Ac<|Jx.nQ (p:=AA (zP g) 5) rv0 B7 Z (fun wj hj=>(BX.chg (w:=w1.drew) (F:=Fc++Fv) a7 hj fun hm=>(zi.1 hm).elim hgn.1 hgn.2.2).ldp (i:=5) sM) Ac<|Jx.f8 (zI v) Z Ac<|Jx.Ai ⟨?_,?_⟩
 ·refine Jx.oK<|Gm (cs:=[zI c.op,zI c.a,zI c.b,zI c.num]) (y:=c) (B:=w1.heap.size) AT YF LY Z (by decide) Z (Xa (U:=w1.heap.size) hc) (A9 _) Ac ?_
  intro v4 w4 ao eq d8
  refine Ai ?_
  have du:w1.heap.size≤w4.heap.size:=ao.size
  have az:=Ow.ext (w:=w1.drew) (Ao AT) hOc ao
  have b0:=Ow.ext (w:=w1.drew) (Bj AS) hOv ao
  have b1:=Ow.ext (w:=w1.drew) (Ao B1) hOg ao
  have d9:=BX.ext (w:=w1.drew) a7 ao
  have da:Az S w w4:=d6.drew.ext ao
  have db:=d7.drew.ext ao
  refine Jx.Ai ⟨?_,?_⟩
  ·refine Jx.qX<|PB (v:=rc0) (a:=v4) AT YF LY Z (by decide) Z Z az d8 oM (Nat.zero_le _) (Nat.zero_le _) oM (by unfold maxLen;omega) Ac ?_
   intro v5 w5 F5 ap dv b2
   refine Ai ⟨Az.sub ap fun b hb=>z8 _ hb,?_⟩
   have dw:w4.heap.size≤w5.heap.size:=ap.size
   have bv:=b0.keep (Bj AS) ap fun b hb hm=>hdj.2.1 b hb hm
   have bw:=b1.keep (Ao B1) ap fun b hb hm=>hdj.1 b hb hm
   have dx:=BX.chg d9 ap hgn.1
   have dy:Az S w w5:=da.trans (ap.sub hSc)
   have dz:=db.more ap hSc
   refine Jx.oK<|Bs (u:=zI v) (B:=w5.heap.size) AS Bm BM Z Z (Mf w5.heap.size w5.heap.size _ _ _hv) (A9 _) Ac ?_
   intro v6 w6 aq er e0
   refine Ai ?_
   have e1:w5.heap.size≤w6.heap.size:=aq.size
   have bx:=Ow.ext (w:=w5) (Ao AT) dv aq
   have bz:=Ow.ext (w:=w5) (Bj AS) bv aq
   have c1:=Ow.ext (w:=w5) (Ao B1) bw aq
   have e2:=BX.ext (w:=w5) dx aq
   have e3:Az S w w6:=dy.ext aq
   have e4:=dz.ext aq
   refine Jx.qX<|Nd (v:=rv0) (a:=v6) Bm BM Z Z Z bz e0.rd1 (Nat.zero_le _) Sx Sw Ac ?_
   intro v7 w7 F7 ar dc br
   refine Ai ⟨Az.sub ar fun b hb=>z1 _ hb,?_⟩
   have e5:w6.heap.size≤w7.heap.size:=ar.size
   have au:=bx.keep (Ao AT) ar fun b hb hm=>by rcases b2 b hm with h9|h9|h9;exact hdj.2.1 b h9 hb;(have:=hOv.high b hb;omega);(have:=hOv.high b hb;omega)
   have c2:=c1.keep (Ao B1) ar fun b hb hm=>hdj.2.2 b hm hb
   have e6:=BX.chg e2 ar hgn.2.2
   have dd:Az S w w7:=e3.trans (ar.sub hSv)
   have es:=e4.more ar hSv
   refine Jx.ZL Z ?_
   have av:CT 69 208 2 (F5++(F7++S)) g w7.heap v5 rg0 v7 (T.put c v):=⟨F5,Fg,F7,au.up oM,c2.up oM,dc,⟨fun b hb hm=>by rcases b2 b hb with h9|h9|h9;exact hdj.1 b h9 hm;(have:=hOg.high b hm;omega);(have:=hOg.high b hm;omega),fun b hb hm=>by rcases br b hm with h8|h8;(rcases b2 b hb with h9|h9|h9;exact hdj.2.1 b h9 h8;(have:=hOv.high b h8;omega);(have:=hOv.high b h8;omega));(have:=au.high b hb;omega),fun b hm hb=>by rcases br b hb with h8|h8;exact hdj.2.2 b hm h8;(have:=hOg.high b hm;omega)⟩,⟨fun hm=>by rcases b2 g hm with h9|h9|h9;exact hgn.1 h9;omega;omega,hgn.2.1,fun hm=>by rcases br g hm with h9|h9;exact hgn.2.2 h9;omega⟩,fun b hb=>z8 _ hb,fun b hb=>z1 _ (z1 _ (hSg b hb)),fun b hb=>z1 _ (z8 _ hb)⟩
   have c3:GH S (F5++(F7++S)) w w7:=⟨fun b hb=>z1 _ (z1 _ hb),fun b hb=>by rcases zi.1 hb with hb|hb;(rcases b2 b hb with h9|h9|h9;exact .inl (hSc b h9);(right;omega);(right;omega));rcases zi.1 hb with hb|hb;(rcases br b hb with h9|h9;exact .inl (hSv b h9);(right;omega));exact .inl hb,fun b hb=>by rcases zi.1 hb with hb|hb;(have:=au.high b hb;omega);rcases zi.1 hb with hb|hb;(exact dc.high b hb);(have:=hS b hb;omega),dd⟩
   refine Be Z Ac<|Aq (p:=zP g) 1 GU Z Z Ac<|Aq (p:=AA (zP g) 1) (b:=g) (o:=1) 1 IN Z Z Ac (BB (k:=2) (w:=w7) iK Z Z (Bo av.slc) e6 sM Ac fun w9 bs et c4=>?_)
   replace c4:BX w9.heap g [vp,zI ip,v5,rg0,zN,rv0,zI (s0:Int),zI c0]:=c4
   have e7:Az S w w9:=dd.trans (bs.sub (Bq hgS))
   have e8:=CT.chg av bs
   have e9:=c3.set hgS bs
   have ea:w7.heap.size≤w9.heap.size:=bs.size
   refine Be Z Ac<|Aq (p:=zP g) 5 Ed Z Z Ac (BB (k:=5) (w:=w9) KS Z Z (Bo av.slv) c4 sM Ac fun f3 ae eb af=>?_)
   replace af:BX f3.heap g [vp,zI ip,v5,rg0,zN,v7,zI (s0:Int),zI c0]:=af
   have ec:Az S w f3:=e7.trans (ae.sub (Bq hgS))
   have b3:=CT.chg e8 ae
   have c5:=e9.set hgS ae
   have de:w9.heap.size≤f3.heap.size:=ae.size
   exact Ai<|qS [0,0,0,2,0,0,0] Z<|Af 1 Z<|Be Z Ac<|Aq (p:=zP g) 5 Ed Z Z Ac<|Al (p:=AA (zP g) 5) (.inr Z) v7 B7 Z (af.ldp (i:=5) sM) Ac<|AN (v:=v7) Bm Z (CT.slv b3) Ac<|Cb (T.vals.length:Int) Z Z (Bd LH LH) Ac<|Ae 1 Z<|A3<|Ah [6] Z (zI (T.vals.length:Int)) Z ⟨_,(by rfl),c5,⟨_,_,_,af,b3⟩⟩
  refine Jx.oK<|Bs (u:=zI v) (B:=w4.heap.size) AS Bm BM Z Z (Mf w4.heap.size w4.heap.size _ _ _hv) (A9 _) Ac ?_
  intro ga f4 a0 ed c6
  refine Ai ?_
  have df:w4.heap.size≤f4.heap.size:=a0.size
  have b4:=Ow.ext (w:=w4) (Ao AT) az a0
  have b5:=Ow.ext (w:=w4) (Bj AS) b0 a0
  have b6:=Ow.ext (w:=w4) (Ao B1) b1 a0
  have c7:=d8.ext (Ao AT) a0
  have c8:=BX.ext (w:=w4) d9 a0
  have c9:Az S w f4:=da.ext a0
  have ca:=db.ext a0
  refine Jx.qX<|PB (v:=rc0) (a:=v4) AT YF LY Z (by decide) Z Z b4 c7 oM (Nat.zero_le _) (Nat.zero_le _) oM (by unfold maxLen;omega) Ac ?_
  intro fe fr fs a1 cb a8
  refine Ai ⟨Az.sub a1 fun b hb=>z8 _ hb,?_⟩
  have dg:f4.heap.size≤fr.heap.size:=a1.size
  have b7:=b5.keep (Bj AS) a1 fun b hb hm=>hdj.2.1 b hb hm
  have b8:=b6.keep (Ao B1) a1 fun b hb hm=>hdj.1 b hb hm
  have cc:=c6.chg (o1) a1 fun b hb=>zH<|hOc.high b hb
  have cd:=BX.chg c8 a1 hgn.1
  have ce:Az S w fr:=c9.trans (a1.sub hSc)
  have cf:=ca.more a1 hSc
  refine Jx.qX<|Nd (v:=rv0) (a:=ga) Bm BM Z Z Z b7 cc.rd1 (Nat.zero_le _) Sx Sw Ac ?_
  intro f1 ew fx a4 b9 ag
  refine Ai ⟨Az.sub a4 fun b hb=>z1 _ hb,?_⟩
  have dh:fr.heap.size≤ew.heap.size:=a4.size
  have a9:=cb.keep (Ao AT) a4 fun b hb hm=>by rcases a8 b hm with h9|h9|h9;exact hdj.2.1 b h9 hb;(have:=hOv.high b hb;omega);(have:=hOv.high b hb;omega)
  have ba:=b8.keep (Ao B1) a4 fun b hb hm=>hdj.2.2 b hm hb
  have cg:=BX.chg cd a4 hgn.2.2
  have bb:Az S w ew:=ce.trans (a4.sub hSv)
  have ee:=cf.more a4 hSv
  refine Jx.ZL Z ?_
  have aa:CT 69 208 2 (fs++(fx++S)) g ew.heap fe rg0 f1 (T.put c v):=⟨fs,Fg,fx,a9.up oM,ba.up oM,b9,⟨fun b hb hm=>by rcases a8 b hb with h9|h9|h9;exact hdj.1 b h9 hm;(have:=hOg.high b hm;omega);(have:=hOg.high b hm;omega),fun b hb hm=>by rcases ag b hm with h8|h8;(rcases a8 b hb with h9|h9|h9;exact hdj.2.1 b h9 h8;(have:=hOv.high b h8;omega);(have:=hOv.high b h8;omega));(have:=a9.high b hb;omega),fun b hm hb=>by rcases ag b hb with h8|h8;exact hdj.2.2 b hm h8;(have:=hOg.high b hm;omega)⟩,⟨fun hm=>by rcases a8 g hm with h9|h9|h9;exact hgn.1 h9;omega;omega,hgn.2.1,fun hm=>by rcases ag g hm with h9|h9;exact hgn.2.2 h9;omega⟩,fun b hb=>z8 _ hb,fun b hb=>z1 _ (z1 _ (hSg b hb)),fun b hb=>z1 _ (z8 _ hb)⟩
  have bc:GH S (fs++(fx++S)) w ew:=⟨fun b hb=>z1 _ (z1 _ hb),fun b hb=>by rcases zi.1 hb with hb|hb;(rcases a8 b hb with h9|h9|h9;exact .inl (hSc b h9);(right;omega);(right;omega));rcases zi.1 hb with hb|hb;(rcases ag b hb with h9|h9;exact .inl (hSv b h9);(right;omega));exact .inl hb,fun b hb=>by rcases zi.1 hb with hb|hb;(have:=a9.high b hb;omega);rcases zi.1 hb with hb|hb;(exact b9.high b hb);(have:=hS b hb;omega),bb⟩
  refine Be Z Ac<|Aq (p:=zP g) 1 GU Z Z Ac<|Aq (p:=AA (zP g) 1) (b:=g) (o:=1) 1 IN Z Z Ac (BB (k:=2) (w:=ew) iK Z Z (Bo aa.slc) cg sM Ac fun ey ah ef aw=>?_)
  replace aw:BX ey.heap g [vp,zI ip,fe,rg0,zN,rv0,zI (s0:Int),zI c0]:=aw
  have ch:Az S w ey:=bb.trans (ah.sub (Bq hgS))
  have ci:=CT.chg aa ah
  have cj:=bc.set hgS ah
  have di:ew.heap.size≤ey.heap.size:=ah.size
  refine Be Z Ac<|Aq (p:=zP g) 5 Ed Z Z Ac (BB (k:=5) (w:=ey) KS Z Z (Bo aa.slv) aw sM Ac fun g0 ai eg aj=>?_)
  replace aj:BX g0.heap g [vp,zI ip,fe,rg0,zN,f1,zI (s0:Int),zI c0]:=aj
  have eh:Az S w g0:=ch.trans (ai.sub (Bq hgS))
  have bd:=CT.chg ci ai
  have ck:=cj.set hgS ai
  have dj:ey.heap.size≤g0.heap.size:=ai.size
  exact Ai<|qS [0,0,0,2,0,0,0] Z<|Af 1 Z<|Be Z Ac<|Aq (p:=zP g) 5 Ed Z Z Ac<|Al (p:=AA (zP g) 5) (.inr Z) f1 B7 Z (aj.ldp (i:=5) sM) Ac<|AN (v:=f1) Bm Z (CT.slv bd) Ac<|Cb (T.vals.length:Int) Z Z (Bd LH LH) Ac<|Ae 1 Z<|A3<|Ah [6] Z (zI (T.vals.length:Int)) Z ⟨_,(by rfl),ck,⟨_,_,_,aj,bd⟩⟩
 refine Jx.oK<|Bs (u:=zI v) (B:=w1.heap.size) AS Bm BM Z Z (Mf w1.heap.size w1.heap.size _ _ _hv) (A9 _) Ac ?_
 intro gb eu a5 ei cl
 refine Ai ?_
 have dk:w1.heap.size≤eu.heap.size:=a5.size
 have be:=Ow.ext (w:=w1.drew) (Ao AT) hOc a5
 have bf:=Ow.ext (w:=w1.drew) (Bj AS) hOv a5
 have bg:=Ow.ext (w:=w1.drew) (Ao B1) hOg a5
 have cm:=BX.ext (w:=w1.drew) a7 a5
 have cn:Az S w eu:=d6.drew.ext a5
 have co:=d7.drew.ext a5
 refine Jx.oK<|Gm (cs:=[zI c.op,zI c.a,zI c.b,zI c.num]) (y:=c) (B:=eu.heap.size) AT YF LY Z (by decide) Z (Xa (U:=eu.heap.size) hc) (A9 _) Ac ?_
 intro gc g4 a2 ej cp
 refine Ai ?_
 have dl:eu.heap.size≤g4.heap.size:=a2.size
 have bh:=Ow.ext (w:=eu) (Ao AT) be a2
 have bi:=Ow.ext (w:=eu) (Bj AS) bf a2
 have bj:=Ow.ext (w:=eu) (Ao B1) bg a2
 have cq:=cl.ext (o1) a2
 have cr:=BX.ext (w:=eu) cm a2
 have ct:Az S w g4:=cn.ext a2
 have cu:=co.ext a2
 refine Jx.qX<|PB (v:=rc0) (a:=gc) AT YF LY Z (by decide) Z Z bh cp oM (Nat.zero_le _) (Nat.zero_le _) oM (by unfold maxLen;omega) Ac ?_
 intro g5 g6 g7 a3 cv ab
 refine Ai ⟨Az.sub a3 fun b hb=>z8 _ hb,?_⟩
 have dm:g4.heap.size≤g6.heap.size:=a3.size
 have bk:=bi.keep (Bj AS) a3 fun b hb hm=>hdj.2.1 b hb hm
 have bl:=bj.keep (Ao B1) a3 fun b hb hm=>hdj.1 b hb hm
 have cw:=cq.chg (o1) a3 fun b hb=>zH<|hOc.high b hb
 have cx:=BX.chg cr a3 hgn.1
 have cy:Az S w g6:=ct.trans (a3.sub hSc)
 have cz:=cu.more a3 hSc
 refine Jx.qX<|Nd (v:=rv0) (a:=gb) Bm BM Z Z Z bk cw.rd1 (Nat.zero_le _) Sx Sw Ac ?_
 intro f2 ex g8 a6 bm ak
 refine Ai ⟨Az.sub a6 fun b hb=>z1 _ hb,?_⟩
 have dn:g6.heap.size≤ex.heap.size:=a6.size
 have ac:=cv.keep (Ao AT) a6 fun b hb hm=>by rcases ab b hm with h9|h9|h9;exact hdj.2.1 b h9 hb;(have:=hOv.high b hb;omega);(have:=hOv.high b hb;omega)
 have bn:=bl.keep (Ao B1) a6 fun b hb hm=>hdj.2.2 b hm hb
 have d0:=BX.chg cx a6 hgn.2.2
 have bo:Az S w ex:=cy.trans (a6.sub hSv)
 have ek:=cz.more a6 hSv
 refine Jx.ZL Z ?_
 have ad:CT 69 208 2 (g7++(g8++S)) g ex.heap g5 rg0 f2 (T.put c v):=⟨g7,Fg,g8,ac.up oM,bn.up oM,bm,⟨fun b hb hm=>by rcases ab b hb with h9|h9|h9;exact hdj.1 b h9 hm;(have:=hOg.high b hm;omega);(have:=hOg.high b hm;omega),fun b hb hm=>by rcases ak b hm with h8|h8;(rcases ab b hb with h9|h9|h9;exact hdj.2.1 b h9 h8;(have:=hOv.high b h8;omega);(have:=hOv.high b h8;omega));(have:=ac.high b hb;omega),fun b hm hb=>by rcases ak b hb with h8|h8;exact hdj.2.2 b hm h8;(have:=hOg.high b hm;omega)⟩,⟨fun hm=>by rcases ab g hm with h9|h9|h9;exact hgn.1 h9;omega;omega,hgn.2.1,fun hm=>by rcases ak g hm with h9|h9;exact hgn.2.2 h9;omega⟩,fun b hb=>z8 _ hb,fun b hb=>z1 _ (z1 _ (hSg b hb)),fun b hb=>z1 _ (z8 _ hb)⟩
 have bp:GH S (g7++(g8++S)) w ex:=⟨fun b hb=>z1 _ (z1 _ hb),fun b hb=>by rcases zi.1 hb with hb|hb;(rcases ab b hb with h9|h9|h9;exact .inl (hSc b h9);(right;omega);(right;omega));rcases zi.1 hb with hb|hb;(rcases ak b hb with h9|h9;exact .inl (hSv b h9);(right;omega));exact .inl hb,fun b hb=>by rcases zi.1 hb with hb|hb;(have:=ac.high b hb;omega);rcases zi.1 hb with hb|hb;(exact bm.high b hb);(have:=hS b hb;omega),bo⟩
 refine Be Z Ac<|Aq (p:=zP g) 1 GU Z Z Ac<|Aq (p:=AA (zP g) 1) (b:=g) (o:=1) 1 IN Z Z Ac (BB (k:=2) (w:=ex) iK Z Z (Bo ad.slc) d0 sM Ac fun ez al el ax=>?_)
 replace ax:BX ez.heap g [vp,zI ip,g5,rg0,zN,rv0,zI (s0:Int),zI c0]:=ax
 have d1:Az S w ez:=bo.trans (al.sub (Bq hgS))
 have d2:=CT.chg ad al
 have d3:=bp.set hgS al
 have dp:ex.heap.size≤ez.heap.size:=al.size
 refine Be Z Ac<|Aq (p:=zP g) 5 Ed Z Z Ac (BB (k:=5) (w:=ez) KS Z Z (Bo ad.slv) ax sM Ac fun g9 am em an=>?_)
 replace an:BX g9.heap g [vp,zI ip,g5,rg0,zN,f2,zI (s0:Int),zI c0]:=an
 have en:Az S w g9:=d1.trans (am.sub (Bq hgS))
 have bq:=CT.chg d2 am
 have d4:=d3.set hgS am
 have dq:ez.heap.size≤g9.heap.size:=am.size
 exact Ai<|qS [0,0,0,2,0,0,0] Z<|Af 1 Z<|Be Z Ac<|Aq (p:=zP g) 5 Ed Z Z Ac<|Al (p:=AA (zP g) 5) (.inr Z) f2 B7 Z (an.ldp (i:=5) sM) Ac<|AN (v:=f2) Bm Z (CT.slv bq) Ac<|Cb (T.vals.length:Int) Z Z (Bd LH LH) Ac<|Ae 1 Z<|A3<|Ah [6] Z (zI (T.vals.length:Int)) Z ⟨_,(by rfl),d4,⟨_,_,_,an,bq⟩⟩
def nI (F d:Nat):Prop:=∀(w:World) (S:List Nat) (g:Nat) (vp:Value) (dp:Nat) (ip:Int) (s0:Nat) (c0:Int) (p:List Fn) (T:Tp) (ve:Value) (ex:Ex) (vv:Value) (env:List Int) (hS:∀b∈S,b<w.heap.size) (hgS:g∈S) (hR0:UV 69 208 2 S g w.heap vp ip T s0 c0) (hp:RP S dp w.heap vp p) (_hip:BI ip) (hs0:s0≤3000) (hc0:0≤c0∧c0≤9) (hbd:LV T s0) (hex:RX S d w.heap ve ex) (henv:RN S (B3 rI) w.heap vv env) (hqenv:Cj vv)
  (hvp:J2 p) (hF:F≤p.length) (hwf:wf p ((F:Nat):Int) ex ((env.length:Nat):Int)=true) (hdp:env.length+ex.deep≤1000000) (hen:c0=0→Lu T env),
  Calls Tryz.prog 181 #[.pointer (some ⟨g,0,none⟩),.agg #[.int .i64 ex.kind,.int .i64 ex.num,.int .i64 ex.pick,.int .i64 ex.count,ve],vv] w (fun e w'=>∃(r:Int) (S':List Nat) (T':Tp) (s1:Nat) (c1:Int),e=.returned (.int .i64 r)∧GH S S' w w'∧UV 69 208 2 S' g w'.heap vp ip T' s1 c1∧cI T T' s0 s1 c1∧(c1=0→0≤r∧r<((T'.vals.length:Nat):Int))∧(BI r)∧AX (go c0 (Id (M4 p F) ex env s0 T)) (r,T') s1 c1)
def r9 (F d:Nat):Prop:=∀(w:World) (S:List Nat) (g:Nat) (vp:Value) (dp:Nat) (ip:Int) (s0:Nat) (c0:Int) (p:List Fn) (T:Tp) (vl:Value) (l:List Ex) (vv:Value) (env:List Int) (hS:∀b∈S,b<w.heap.size) (hgS:g∈S) (hR0:UV 69 208 2 S g w.heap vp ip T s0 c0) (hp:RP S dp w.heap vp p) (_hip:BI ip) (hs0:s0≤3000) (hc0:0≤c0∧c0≤9) (hbd:LV T s0) (hl:RN S (EQ 5 (P9 d)) w.heap vl l) (henv:RN S (B3 rI) w.heap vv env) (hqenv:Cj vv)
  (hvp:J2 p) (hF:F≤p.length) (hwf:∀k,k<l.length→wf p ((F:Nat):Int) (l.getD k Ex.zero) ((env.length:Nat):Int)=true) (hdp:∀k,k<l.length→env.length+(l.getD k Ex.zero).deep≤1000000) (hll:l.length≤1000000) (hen:c0=0→Lu T env),
  Calls Tryz.prog 102 #[.pointer (some ⟨g,0,none⟩),vl,vv] w (fun e w'=>∃(v:Value) (xs:List Int) (S':List Nat) (T':Tp) (s1:Nat) (c1:Int),e=.returned v∧GH S S' w w'∧UV 69 208 2 S' g w'.heap vp ip T' s1 c1∧cI T T' s0 s1 c1∧UG S' w.heap.size (B3 rI) w'.heap v xs∧Cj v∧xs.length=l.length∧(c1=0→Lu T' xs)∧AX (go c0 (J5 (M4 p F) l env s0 T)) (xs,T') s1 c1)
theorem Jo (w:World)(S:List Nat)(F:Nat)(g:Nat)(vp:Value)(dp:Nat)(ip:Int)(s0:Nat)(c0:Int)(p:List Fn)(T:Tp)(dl:Nat)(vl:Value)(l:List Ex)(vv:Value)(env:Sr)(hS:∀b∈S,b<w.heap.size)(hgS:g∈S)(hR0:UV 69 208 2 S g w.heap vp ip T s0 c0)(hp:RP S dp w.heap vp p)(_hip:BI ip)(hs0:s0≤3000)(hc0:0≤c0∧c0≤9)(hbd:LV T s0)(hl:RN S (EQ 5 (P9 dl)) w.heap vl l)(henv:RN S (B3 rI) w.heap vv env)(hqenv:Cj vv)(hvp:J2 p)(hF:F≤p.length)(hwf:∀k,k<l.length→wf p (F:Int) (l.getD k Ex.zero) (env.length:Int)=true)(hdp:∀k,k<l.length→env.length+(l.getD k Ex.zero).deep≤1000000)(hll:l.length≤1000000)(hen:c0=0→Lu T env)(IHv:∀d',d'<dl→nI F d') :
  Calls Tryz.prog 102 #[zP g,vl,vv] w (fun e w'=>∃(v:Value) (xs:Sr) (S':List Nat) (T':Tp) (s1:Nat) (c1:Int),e=.returned v∧GH S S' w w'∧UV 69 208 2 S' g w'.heap vp ip T' s1 c1∧cI T T' s0 s1 c1∧UG S' w.heap.size (B3 rI) w'.heap v xs∧Cj v∧xs.length=l.length∧(c1=0→Lu T' xs)∧AX (go c0 (J5 (M4 p F) l env s0 T)) (xs,T') s1 c1):=by
 refine At [zP g,vl,vv] 26 Tryz.func102 Z Z sM ?_
 have bd:Az S w w:=Az.refl S w
 have ce:=hp.lenle
 unfold maxLen at ce
 have cf:=hl.lenle
 unfold maxLen at cf
 have cg:=henv.lenL
 unfold maxLen at cg
 obtain⟨rc0,rg0,rv0,be,bf⟩:=hR0
 have cu:=be.lt
 have hG0:GH S S w w:=GH.refl hS
 refine qT Z<|qS [3,0] Z (BS (rI) AS Bm BM Ac fun v1 w1 ab bs bg=>?_)
 have ao:w.heap.size≤w1.heap.size:=ab.size
 have bh:Az S w w1:=bd.ext ab
 have ae:=be.ext ab
 have bi:=CT.ext bf ab
 have bj:=hG0.ext ab
 refine Ae 1 Z<|A0<|qS [0,0,0] Z<|Af 1 Z<|AN (v:=vl) DE Z hl.isSl Ac<|Ae 1 Z<|A5 ?_
 obtain⟨Fo0,af⟩:=Ow.of_fr bg (A9 _)
 have ap:∀b∈Fo0,b∉S:=fun b hb hm=>by have:=af.low b hb;have:=hS b hm;omega
 have hMs:=bi
 have hGs:=bj
 refine AQ (S:=Nat×Value×Sr×List Nat×List Nat×Tp×Nat×Int×Value×Value×Value) (fun⟨k,vo,xs,Fo,S9,T9,s9,c9,ch,vg9,vv9⟩=>([(7,vo),(13,zI (k:Int)),(0,zP g),(2,vv),(11,vl),(12,zI (l.length:Int))])) (fun⟨k,vo,xs,Fo,S9,T9,s9,c9,ch,vg9,vv9⟩ W=>Az S w W∧BX W.heap g [vp,zI ip,ch,vg9,zN,vv9,zI (s9:Int),zI c9]∧k≤l.length∧GH S S9 w W∧CT 69 208 2 S9 g W.heap ch vg9 vv9 T9∧cI T T9 s0 s9 c9∧Ow (AY rI 2) w.heap.size W.heap.size W.heap vo xs Fo∧(∀b∈Fo,b∉S9)∧xs.length=k∧(c9=0→c0=0)∧(c9=0→Lu T9 xs)∧AX (go c0<|J5 (M4 p F) (l.take k) env s0 T) (xs,T9) s9 c9) (fun⟨k,vo,xs,Fo,S9,T9,s9,c9,ch,vg9,vv9⟩=>l.length-k) (0,v1,[],Fo0,S,T,s0,c0,rc0,rg0,rv0) ⟨rfl,rfl,rfl,rfl,rfl,rfl,trivial⟩ ⟨bh,ae,sD,hGs,hMs,(by exact⟨hbd,zO⟩),af,ap,(by rfl),(by exact fun h=>h),(by exact fun _=>Lu.nil _),(by exact Xe _ _ _ _ _ _)⟩ ?_
 clear bd bf hG0 bg bs ab ao bh bi bj
 rintro⟨k,vo,xs,Fo,S9,T9,s9,c9,ch,vg9,vv9⟩ ρ3 w3 ⟨aq,a3,bk,hGl,hMl,hPl,hOl,hdl,hxl,hzl,hxb,hrl⟩
 have bt:w.heap.size≤w3.heap.size:=aq.size
 have c7:=a3.lt
 have hnl:=hPl.num
 have hbl:=hPl.bnd
 refine qS [0] Z ?_
 by_cases bl:(k:Int)<(l.length:Int)
 ·refine Ay true Z Z (A7 bl) Ac<|Ai<|A0<|Ag Z<|A4<|A0<|A5<|qS [0,2,3,4] Z ?_
  have hkl:k<l.length:=by omega
  refine Aw (v:=vl) k DE BE Z Z hl.isSl Z sD Ac ?_
  obtain⟨cs6,bu,bv⟩:=hl.get (AL dl) Ex.zero (k:=k) sD
  obtain⟨dd6,ac,c8,rfl,am⟩:=RX.of bu
  have ar:=am.rn.lenle
  unfold maxLen at ar
  refine AZ (p:=Ax vl k 5) (.inr Z) [zI<|(l.getD k Ex.zero).kind,zI<|(l.getD k Ex.zero).num,zI<|(l.getD k Ex.zero).pick,zI<|(l.getD k Ex.zero).count,ac] Bi Z (fun cl au=>bv cl<|aq.ext au) Z Ac ?_
  have ca:=a3.lt
  refine Br (z:=.agg #[zI 0,zI 0,zI 0,zI 0,zN]) GV Ac fun w7 ad cb av=>?_
  have bw:w3.heap.size≤w7.heap.size:=ad.size
  have bx:Az S w w7:=aq.ext ad
  have a7:=a3.ext ad
  have bz:=CT.ext hMl ad
  have c2:=hGl.ext ad
  have hO10k:=hOl.ext (Bj AS) ad
  replace av:BX w7.heap w3.heap.size [zI 0,zI 0,zI 0,zI 0,zN]:=av
  refine BR (vs:=[zI<|(l.getD k Ex.zero).kind,zI<|(l.getD k Ex.zero).num,zI<|(l.getD k Ex.zero).pick,zI<|(l.getD k Ex.zero).count,ac]) Bi Z Z am.ones av Z Z Ac fun cc a4 c3 a8=>?_
  replace a8:BX cc.heap w3.heap.size [zI ((l.getD k Ex.zero).kind),zI ((l.getD k Ex.zero).num),zI ((l.getD k Ex.zero).pick),zI ((l.getD k Ex.zero).count),ac]:=a8
  have a9:Az S w cc:=bx.fresh a4 (fun _ h=>zE h)
  have aw:=CT.chgO bz a4 fun b hb hm=>by rw[Ab hb]at hm;exact(zH<|hGl.lt _ hm)
  have a1:=c2.fresh a4 fun _ h=>zE h
  have bm:w7.heap.size≤cc.heap.size:=a4.size
  have ax:=a7.chg a4 (zB ·)
  have ag:=hO10k.keep (Bj AS) a4 fun b hb hm=>by have:=Ab hb;have:=hO10k.low _ hm;have:=hO10k.high _ hm;omega
  refine Ai<|Ad _ [0,0,2,0,4,3,4,0] Z<|Af 2 Z<|AZ (p:=zP w3.heap.size) (.inr Z) [zI<|(l.getD k Ex.zero).kind,zI<|(l.getD k Ex.zero).num,zI<|(l.getD k Ex.zero).pick,zI<|(l.getD k Ex.zero).count,ac] Bi Z (fun cl au=>LD.of_box<|BX.ext (w:=cc) a8 au) Z Ac<|Af 1 Z ?_
  refine AE 181 [] [] [zP g,.agg #[zI<|(l.getD k Ex.zero).kind,zI<|(l.getD k Ex.zero).num,zI<|(l.getD k Ex.zero).pick,zI<|(l.getD k Ex.zero).count,ac],vv] Z Z NC Ac (IHv dd6 oM _ S9 g vp dp ip (s9) (c9) p (T9) ac (l.getD k Ex.zero) vv (env) (fun b hb=>(a1.lt b hb:b<cc.heap.size)) (a1.sub _ hgS) ⟨_,_,_,ax,aw⟩ (RN.stp (Am<|AC dp) hp a9 a1.new) _hip oM oM hbl ⟨am.rng,RN.stp (Am<|AL dd6) am.rn a9 a1.new⟩ (RN.stp g1 henv a9 a1.new) hqenv hvp oM (by exact hwf k hkl) (by exact hdp k hkl) (by intro h9;exact(hen<|hzl h9).mono oM)) ?_
  rintro cw cd ⟨cm,ci,cn,co,cp,rfl,a0,⟨cj,vg18,vv18,ay,az⟩,ah,ai,aj,ak⟩
  refine⟨_,rfl,?_⟩
  have bn:cc.heap.size≤cd.heap.size:=a0.chg.size
  have b0:Az S w cd:=a9.stp a0.chg a1.new
  have b1:=ag.keep (Bj AS) a0.chg fun b hb hm=>hdl b hm hb
  have a5:∀b∈Fo,b∉ci:=fun b hb hm=>(a0.new b hm).elim (hdl b hb) (fun h9=>zH<|ag.high b hb)
  have b2:=a8.chg a0.chg fun hm=>(zH<|hGl.lt _ hm)
  have b3:w3.heap.size∉ci:=fun hm=>(a0.new _ hm).elim (fun hm=>(zH<|hGl.lt _ hm)) (fun h9=>by omega)
  have b4:=a1.trans a0
  have bo:=ah.bnd
  have bp:=ah.num
  have hcz:=fun h9=>jU ak h9
  have hrv:=ai
  refine (Bs (u:=zI cm) (B:=cd.heap.size) AS Bm BM Z Z (Mf cd.heap.size cd.heap.size _ _ aj) (A9 _) Ac ?_)
  intro cs ck a2 c4 b5
  have bq:cd.heap.size≤ck.heap.size:=a2.size
  have b6:Az S w ck:=b0.ext a2
  have aa:=ay.ext a2
  have an:=b2.ext a2
  have b7:=CT.ext az a2
  have al:=b4.ext a2
  have hO29k:=b1.ext (Bj AS) a2
  refine Nd (v:=vo) (a:=cs) Bm BM Z Z Z hO29k b5.rd1 oM sD (by unfold maxLen;first|omega|assumption|(simp;done)|(simp;omega)) Ac fun ct cq cr a6 c5 b8=>?_
  have br:ck.heap.size≤cq.heap.size:=a6.size
  have b9:Az S w cq:=b6.fresh a6 (fun c hc=>zH<|hO29k.low c hc)
  have c6:∀b∈cr,b∉ci:=fun b hb hm=>(b8 b hb).elim (fun h9=>a5 b h9 hm) (fun h9=>zH<|al.lt b hm)
  have ba:=CT.chgO b7 a6 a5
  have bb:=al.fresh a6 fun c hc=>zH<|hO29k.low c hc
  have bc:=aa.chg a6 fun hm=>zH<|hO29k.low _ hm
  refine Ae 1 Z<|Ad _ [0,0] Z<|AG ((k+1:Nat):Int) Z Z (Bd oM oM) Ac<|Ae 1 Z ?_
  have hMe:=ba
  have hGe:=bb
  have hPe:cI T cn s0 co cp:=⟨by assumption,zO⟩
  exact⟨(k+1,ct,xs++[cm],cr,ci,cn,co,cp,cj,vg18,vv18),_,rfl,zR,⟨b9,bc,sD,hGe,hMe,hPe,(by assumption),(by assumption),(by rw[z4,zd,hxl]),(by exact fun h9=>hzl (hcz h9)),(by exact fun h9=>Lu.snoc ((hxb (hcz h9)).mono oM) (hrv h9)),(by exact ZX oM hrl (by assumption))⟩,zD⟩
 exact Ay false Z Z (A8 bl) Ac<|Ai<|A0<|Aj Z<|A6<|Au<|Au<|An<|qS [0,0] Z<|Ae 2 Z<|A3<|Ah [6] Z vo Z ⟨vo,xs,_,T9,s9,c9,rfl,hGl,⟨_,_,_,a3,hMl⟩,⟨hbl,oM⟩,UG.of_ow hOl hdl,hOl.fr.cap,oM,hxb,(by rw[za oM]at hrl;exact hrl)⟩
theorem FT (w:World)(v:Value)(n:Nat)(hs:Er v n)(hcs:Cj v)  :
  Calls Tryz.prog 228 #[v] w (fun e w'=>e=.returned (Kq v)∧w'=w):=by
 refine At [v] 9 Tryz.func228 Z Z sM ?_
 have a0:w=w:=rfl
 exact qT Z<|qS [0,0,0,0,0,0,0] Z<|Af 2 Z<|AN (v:=v) Bm Z hs Ac<|Af 1 Z<|AN (v:=v) Bm Z hs Ac<|fg (v:=v) Bm BM Z hs Z Z hcs Ac<|Ae 1 Z<|A3<|Ah [2] Z (Kq v) Z ⟨rfl,a0⟩
theorem LJ {p:Prop}(h:p:=by first|rw[(Xf (k:=c_op) (a:=a) (b:=b) oM).1,(Xf (k:=c_op) (a:=a) (b:=b) oM).2] <;> rfl|rw[(Xg (k:=c_op) (a:=a) (b:=b) oM).1,(Xg (k:=c_op) (a:=a) (b:=b) oM).2] <;> rfl|rw[(Xh (k:=c_op) (a:=a) (b:=b) oM).1,(Xh (k:=c_op) (a:=a) (b:=b) oM).2] <;> rfl|rw[(Xi (k:=c_op) (a:=a) (b:=b) oM).1,(Xi (k:=c_op) (a:=a) (b:=b) oM).2] <;> rfl|rw[(Tn (k:=c_op) (a:=a) (b:=b) oM oM).1,(Tn (k:=c_op) (a:=a) (b:=b) oM oM).2] <;> rfl|rw[(Xj (k:=c_op) (a:=a) (b:=b) oM oM).1,(Xj (k:=c_op) (a:=a) (b:=b) oM oM).2] <;> rfl):p:=h
theorem Ik (w:World)(c_op c_a c_b c_n:Int)(a:Int)(b:Int)(_hc_op:BI c_op)(_hc_a:BI c_a)(_hc_b:BI c_b)(_hc_n:BI c_n)(_ha:BI a)(_hb:BI b)(hop:3≤c_op∧c_op≤7) :
  Calls Tryz.prog 258 #[(.agg #[(zI c_op),(zI c_a),(zI c_b),(zI c_n)]),zI a,zI b] w (fun e w'=>e=.returned (.tuple #[zI (if ER c_op b then 0 else In c_op a b),.bool (!decide (ER c_op b))])∧AB w w'):=by
 refine At [.agg #[zI c_op,zI c_a,zI c_b,zI c_n],zI a,zI b] 35 Tryz.func258 Z Z sM ?_
 have a8:AB w w:=AB.refl w
 refine qS [3,0,0] Z (C8 (cs:=#[zI c_op,zI c_a,zI c_b,zI c_n]) Z Ac fun w1 a3 aa a2=>?_)
 have a9:=a3.size
 have a0:=a8.trans a3
 replace a2:BX w1.heap w.heap.size [zI c_op,zI c_a,zI c_b,zI c_n]:=a2
 refine Ae 2 Z<|A0<|qS [0,2] Z<|Aq (p:=zP w.heap.size) 0 PV Z Z Ac<|Al (p:=AA (zP w.heap.size) 0) (.inr Z) (zI c_op) AO Z (a2.ldp (i:=0) sM) Ac<|Ai<|A5<|qS [0,0] Z ?_
 by_cases a4:c_op=((3:Nat):Int)
 ·refine Av true Z Z (A7 a4) Ac<|Ae 1 Z<|Ag Z<|qS [0,0,0,0,0] Z<|Af 2 Z<|AD 230 [] [] [zI a,zI b] Z Z YD Ac (zI<|md (a+b)) (fun wq=>IO wq _ _ _ha _hb)<|Ae 2 Z<|A3<|AK<|Ap ?_
  exact Ah [6,7] Z (.tuple #[zI<|md (a+b),.bool true]) Z ⟨LJ,a0⟩
 refine Av false Z Z (A8 a4) Ac<|Ae 1 Z<|Aj Z<|qS [0,0] Z ?_
 by_cases a5:c_op=((4:Nat):Int)
 ·refine Av true Z Z (A7 a5) Ac<|Ae 1 Z<|Ag Z<|qS [0,0,0,0,0] Z<|Af 2 Z<|AD 191 [] [] [zI a,zI b] Z Z YB Ac (zI<|md (a-b)) (fun wq=>I1 wq _ _ _ha _hb)<|Ae 2 Z<|A3<|AK<|Ap ?_
  exact Ah [6,7] Z (.tuple #[zI<|md (a-b),.bool true]) Z ⟨LJ,a0⟩
 refine Av false Z Z (A8 a5) Ac<|Ae 1 Z<|Aj Z<|qS [0,0] Z ?_
 by_cases a6:c_op=((5:Nat):Int)
 ·refine Av true Z Z (A7 a6) Ac<|Ae 1 Z<|Ag Z<|qS [0,0,0,0,0] Z<|Af 2 Z<|AD 190 [] [] [zI a,zI b] Z Z dX Ac (zI<|md (a*b)) (fun wq=>KU wq _ _ _ha _hb)<|Ae 2 Z<|A3<|AK<|Ap ?_
  exact Ah [6,7] Z (.tuple #[zI<|md (a*b),.bool true]) Z ⟨LJ,a0⟩
 refine Av false Z Z (A8 a6) Ac<|Ae 1 Z<|Aj Z<|qS [0,0] Z ?_
 by_cases a7:c_op=((7:Nat):Int)
 ·refine Av true Z Z (A7 a7) Ac<|Ae 1 Z<|Ag Z<|qS [0,0,0,0] Z<|Af 1 Z<|AD 191 [] [] [zI ((0:Nat):Int),zI a] Z Z YB Ac (zI<|md (((0:Nat):Int)-a)) (fun wq=>I1 wq _ _ oM _ha)<|Ae 2 Z<|A3<|AK<|Ap ?_
  exact Ah [6,7] Z (.tuple #[zI<|md (((0:Nat):Int)-a),.bool true]) Z ⟨LJ,a0⟩
 refine Av false Z Z (A8 a7) Ac<|Ae 1 Z<|Aj Z<|A4<|A0<|qS [0,0] Z<|Af 1 Z ?_
 by_cases a1:b=((0:Nat):Int)
 ·refine Av true Z Z (A7 a1) Ac<|Ai<|Ag Z<|qS [0,0] Z<|Ae 2 Z<|A3<|Ap ?_
  exact Ah [6,7] Z (.tuple #[zI ((0:Nat):Int),.bool false]) Z ⟨LJ,a0⟩
 refine Av false Z Z (A8 a1) Ac<|Ai<|Aj Z<|A4<|qS [0,0,0,0,0,0] Z<|Af 2 Z<|AD 226 [] [] [zI b] Z Z eB Ac (zI<|inv b) (fun wq=>IQ wq _ _hb)<|AD 190 [] [] [zI a,zI<|inv b] Z Z dX Ac (zI<|md (a*(inv b))) (fun wq=>KU wq _ _ _ha<|Mh _)<|Ae 2 Z<|A3 ?_
 exact Ah [6,7] Z (.tuple #[zI<|md (a*(inv b)),.bool true]) Z ⟨LJ,a0⟩
theorem Qa {p:Prop}(h:p:=by first|exact ZZ hc00 oM (jV (by assumption))|exact aA hc00 oM (oO (by assumption))|exact aB hc00 oM|exact absurd (jV (Q:=ER op _) (by assumption)) (cH oM)):p:=h
theorem Qb {p:Prop}(h:p:=by first|(intro h9;exact absurd h9 oM)|(intro h9;omega)):p:=h
theorem Qc {p:Prop}(h:p:=by first|exact hbd.up oM|exact hbd.put _ hvr):p:=h
theorem EP {p:Prop}(h:p:=by have:=hG0.lt _ hm;omega):p:=h
theorem GM (w:World)(S:List Nat)(g:Nat)(vp:Value)(dp:Nat)(ip:Int)(s0:Nat)(c0:Int)(p:List Fn)(T:Tp)(op:Int)(vk:Value)(ks:Sr)(hS:∀b∈S,b<w.heap.size)(hgS:g∈S)(hR0:UV 69 208 2 S g w.heap vp ip T s0 c0)(hp:RP S dp w.heap vp p)(_hip:BI ip)(hs0:s0≤3000)(hc0:0≤c0∧c0≤9)(hbd:LV T s0)(_hop:BI op)(hks:RN S (B3 rI) w.heap vk ks)(hqks:Cj vk)(hop:3≤op∧op≤7)(hkl:1≤ks.length∧(op≠7→2≤ks.length))(hen:Lu T ks)(hc00:c0=0) :
  Calls Tryz.prog 229 #[zP g,zI op,vk] w (fun e w'=>∃(r:Int) (S':List Nat) (T':Tp) (c1:Int),e=.returned (zI r)∧GH S S' w w'∧UV 69 208 2 S' g w'.heap vp ip T' s0 c1∧LV T' (s0+1)∧((0≤c1∧c1≤9)∧T.vals.length≤T'.vals.length∧T'.vals.length≤T.vals.length+1∧T'.grd.length=T.grd.length)∧(c1=0→0≤r∧r<(T'.vals.length:Int))∧(BI r)∧AX (go c0 (Xb op ks s0 T)) (r,T') s0 c1):=by
 refine At [zP g,zI op,vk] 51 Tryz.func229 Z Z sM ?_
 have bi:Az S w w:=Az.refl S w
 have cd:=hp.lenle
 unfold maxLen at cd
 have cg:=hks.lenL
 unfold maxLen at cg
 obtain⟨rc0,rg0,rv0,b0,bv⟩:=hR0
 have cx:=b0.lt
 have hG0:GH S S w w:=GH.refl hS
 have ch:=hen 0 oM
 have hbn:=hbd.ln hs0
 refine qT Z<|qS [0,0,0,2,0,3,4] Z<|Af 2 Z<|Aw (v:=vk) 0 Bm BM Z Z hks.slL Z sD Ac ?_
 have am:=RN.getI (w:=w) (k:=0) hks sD
 refine Al (p:=Ax vk 0 1) (.inr Z) (zI<|ks.getD 0 0) AO Z (am.1 _ bi) Ac ?_
 have b1:∀(wq:World),(Instr.build 69 #[(0,zI op),(1,zI (ks.getD 0 0))]).run Tryz.prog wq=.ok (.agg #[zI op,zI (ks.getD 0 0),zI 0,zI 0]) wq:=by intro wq;kernel_rfl
 refine Ce (ps:=#[(0,zI op),(1,zI<|ks.getD 0 0)]) (.agg #[zI op,zI<|ks.getD 0 0,zI 0,zI 0]) (by simp only[zc,zf,zh];rfl) (fun wq=>b1  wq) Ac ?_
 have ci:=b0.lt
 refine Br (z:=.agg #[zI 0,zI 0,zI 0,zI 0]) bL Ac fun w3 an cj b2=>?_
 have bw:w.heap.size≤w3.heap.size:=an.size
 have bx:Az S w w3:=bi.ext an
 have ao:=b0.ext an
 have bz:=CT.ext bv an
 have c2:=hG0.ext an
 replace b2:BX w3.heap w.heap.size [zI 0,zI 0,zI 0,zI 0]:=b2
 refine BR (vs:=[zI op,zI<|ks.getD 0 0,zI (0:Int),zI (0:Int)]) Ig Z Z (by intro u hu;simp only[ze,z2,or_false]at hu;rcases hu with rfl|rfl|rfl|rfl <;> first|exact⟨rfl,rfl⟩) b2 Z Z Ac fun w6 ap ck ag=>?_
 replace ag:BX w6.heap w.heap.size [zI op,zI (ks.getD 0 0),zI (0:Int),zI (0:Int)]:=ag
 have b3:Az S w w6:=bx.fresh ap (fun _ h=>zE h)
 have af:=CT.chgO bz ap fun b hb hm=>by rw[Ab hb]at hm;exact EP
 have bj:=c2.fresh ap fun _ h=>zE h
 have c3:w3.heap.size≤w6.heap.size:=ap.size
 have az:=ao.chg ap (zB ·)
 refine Ai<|A0<|qS [0,0] Z<|Af 1 Z ?_
 by_cases aq:op≠((7:Nat):Int)
 ·refine B4 true Z Z (A7 aq) Ac<|Ai<|Ag Z<|Ad _ [0,0,2,0,4] Z ?_
  have cl:=hen 1 oM
  refine Af 1 Z<|Aw (v:=vk) 1 Bm BM Z Z hks.slL Z sD Ac ?_
  have ah:=RN.getI (w:=w) (k:=1) hks sD
  refine Al (p:=Ax vk 1 1) (.inr Z) (zI<|ks.getD 1 0) AO Z (ah.1 _ b3) Ac<|Aq (p:=zP w.heap.size) 2 EJ Z Z Ac (BB (k:=2) (w:=w6) I0 Z Z ⟨rfl,rfl⟩ ag sM Ac fun cm a9 c4 a8=>?_)
  replace a8:BX cm.heap w.heap.size [zI op,zI (ks.getD 0 0),zI (ks.getD 1 0),zI (0:Int)]:=a8
  have b4:Az S w cm:=b3.fresh a9 (fun _ h=>zE h)
  have a3:=CT.chgO af a9 fun b hb hm=>by rw[Ab hb]at hm;exact EP
  have b5:=bj.fresh a9 fun _ h=>zE h
  have bk:w6.heap.size≤cm.heap.size:=a9.size
  have ai:=az.chg a9 (zB ·)
  refine Ai<|A0<|AW _ [1,0,0,0,1,0,1,0,1,0,0,0,1,0,1,0,1,3,0,0,0,0,0] mixed (by kernel_rfl)<|AZ (p:=zP w.heap.size) (.inl Z) [zI op,zI<|ks.getD 0 0,zI<|ks.getD 1 0,zI (0:Int)] Ig Z (fun cn aj=>LD.of_box<|BX.ext (w:=cm.drew) a8 aj) Z Ac<|Af 1 Z<|Be Z Ac<|Aq (p:=zP g) 5 Ed Z Z Ac<|Al (p:=AA (zP g) 5) (.inl Z) rv0 B7 Z (ai.ldp (i:=5) sM) Ac<|Aq (p:=zP w.heap.size) 1 Fd Z Z Ac ?_
  refine Al (p:=AA (zP w.heap.size) 1) (.inl Z) (zI<|ks.getD 0 0) AO Z (a8.ldp (i:=1) sM) Ac<|Aw (v:=rv0) ((ks.getD 0 0).toNat) Bm BM Z Z (CT.slv a3) oM oM Ac (Al (p:=Ax rv0 ((ks.getD 0 0).toNat) 1) (.inl Z) (zI<|T.vals.getD ((ks.getD 0 0).toNat) 0) AO Z ((CT.rdv a3).getI oM).1 Ac (Af 1 Z<|Be Z Ac<|Aq (p:=zP g) 5 Ed Z Z Ac<|Al (p:=AA (zP g) 5) (.inl Z) rv0 B7 Z (ai.ldp (i:=5) sM) Ac<|Aq (p:=zP w.heap.size) 2 EJ Z Z Ac ?_))
  refine Al (p:=AA (zP w.heap.size) 2) (.inl Z) (zI<|ks.getD 1 0) AO Z (a8.ldp (i:=2) sM) Ac<|Aw (v:=rv0) ((ks.getD 1 0).toNat) Bm BM Z Z (CT.slv a3) oM oM Ac (Al (p:=Ax rv0 ((ks.getD 1 0).toNat) 1) (.inl Z) (zI<|T.vals.getD ((ks.getD 1 0).toNat) 0) AO Z ((CT.rdv a3).getI oM).1 Ac (As 258 [] [] [.agg #[zI op,zI<|ks.getD 0 0,zI<|ks.getD 1 0,zI (0:Int)],zI<|T.vals.getD ((ks.getD 0 0).toNat) 0,zI<|T.vals.getD ((ks.getD 1 0).toNat) 0] Z Z eF Ac (Ik _ (op) (ks.getD 0 0) (ks.getD 1 0) (0:Int) _ _ _hop am.2 ah.2 oM ((CT.rdv a3).getI oM).2 ((CT.rdv a3).getI oM).2 oM) ?_))
  rintro cy c7 ⟨rfl,a0⟩
  refine⟨_,rfl,a0,?_⟩
  replace a0:=a0.of_drew
  have bl:cm.heap.size≤c7.heap.size:=a0.size
  have ar:Az S w c7:=b4.ext a0
  have a7:=ai.ext a0
  have a2:=a8.ext a0
  have c5:=(CT.rdv a3).ext g1 a0
  have au:=CT.ext a3 a0
  have aa:=b5.ext a0
  refine Af 1 Z<|AI (vs:=[zI (if ER op (T.vals.getD ((ks.getD 1 0).toNat) 0)then 0 else In op (T.vals.getD ((ks.getD 0 0).toNat) 0) (T.vals.getD ((ks.getD 1 0).toNat) 0)),.bool (!decide (ER op<|T.vals.getD ((ks.getD 1 0).toNat) 0))]) (zI (if ER op (T.vals.getD ((ks.getD 1 0).toNat) 0)then 0 else In op (T.vals.getD ((ks.getD 0 0).toNat) 0) (T.vals.getD ((ks.getD 1 0).toNat) 0))) Z Z Ac<|AI (vs:=[zI (if ER op (T.vals.getD ((ks.getD 1 0).toNat) 0)then 0 else In op (T.vals.getD ((ks.getD 0 0).toNat) 0) (T.vals.getD ((ks.getD 1 0).toNat) 0)),.bool (!decide (ER op<|T.vals.getD ((ks.getD 1 0).toNat) 0))]) (.bool (!decide (ER op<|T.vals.getD ((ks.getD 1 0).toNat) 0))) Z Z Ac<|Ae 2 Z<|A0<|qS [0,0] Z ?_
  have hvr:0≤(if ER op (T.vals.getD ((ks.getD 1 0).toNat) 0)then 0 else In op (T.vals.getD ((ks.getD 0 0).toNat) 0) (T.vals.getD ((ks.getD 1 0).toNat) 0))∧(if ER op (T.vals.getD ((ks.getD 1 0).toNat) 0)then 0 else In op (T.vals.getD ((ks.getD 0 0).toNat) 0) (T.vals.getD ((ks.getD 1 0).toNat) 0))<1000003:=Tq _ _ _
  refine Af 1 Z<|BH (!(!decide (ER op<|T.vals.getD ((ks.getD 1 0).toNat) 0))) Z Z Ac<|Ai ?_
  cases av:(!(!decide (ER op (T.vals.getD ((ks.getD 1 0).toNat) 0))))
  ·refine Aj (by first|rfl|exact zW av)<|A4<|qS [0,2,0,4,0] Z<|Af 1 Z<|AZ (p:=zP w.heap.size) (.inr Z) [zI op,zI<|ks.getD 0 0,zI<|ks.getD 1 0,zI (0:Int)] Ig Z (fun cn aj=>LD.of_box<|BX.ext (w:=c7) a2 aj) Z Ac<|Af 1 Z ?_
   refine AE 101 [] [] [zP g,.agg #[zI op,zI<|ks.getD 0 0,zI<|ks.getD 1 0,zI (0:Int)],zI (if ER op (T.vals.getD ((ks.getD 1 0).toNat) 0)then 0 else In op (T.vals.getD ((ks.getD 0 0).toNat) 0) (T.vals.getD ((ks.getD 1 0).toNat) 0))] Z Z TY Ac (D5 _ S g vp ip (s0) (c0) (T) (⟨op,ks.getD 0 0,ks.getD 1 0,(0:Int)⟩:AM) (if ER op (T.vals.getD ((ks.getD 1 0).toNat) 0)then 0 else In op (T.vals.getD ((ks.getD 0 0).toNat) 0) (T.vals.getD ((ks.getD 1 0).toNat) 0)) (fun b hb=>(aa.lt b hb:b<c7.heap.size)) (aa.sub _ hgS) ⟨_,_,_,a7,au⟩ _hip (by exact hbd.ln hs0) ⟨_hop,am.2,ah.2,(show BI (0:Int)from by omega)⟩ (by have:=PD op (T.vals.getD ((ks.getD 0 0).toNat) 0) (T.vals.getD ((ks.getD 1 0).toNat) 0);split <;> omega)) ?_
   rintro cz cq ⟨cs,rfl,a4,ct,vg20,vv20,b6,b7⟩
   refine⟨_,rfl,?_⟩
   have bm:c7.heap.size≤cq.heap.size:=a4.chg.size
   have c6:Az S w cq:=ar.stp a4.chg aa.new
   have b8:w.heap.size∉cs:=fun hm=>(a4.new _ hm).elim (fun hm=>EP) (fun h9=>by omega)
   have b9:=aa.trans a4
   have bn:(T.put (⟨op,ks.getD 0 0,ks.getD 1 0,(0:Int)⟩:AM) (if ER op (T.vals.getD ((ks.getD 1 0).toNat) 0)then 0 else In op (T.vals.getD ((ks.getD 0 0).toNat) 0) (T.vals.getD ((ks.getD 1 0).toNat) 0))).vals.length=T.vals.length+1:=HU _ _ _
   have bo:(T.put (⟨op,ks.getD 0 0,ks.getD 1 0,(0:Int)⟩:AM) (if ER op (T.vals.getD ((ks.getD 1 0).toNat) 0)then 0 else In op (T.vals.getD ((ks.getD 0 0).toNat) 0) (T.vals.getD ((ks.getD 1 0).toNat) 0))).grd.length=T.grd.length:=rfl
   exact Ae 1 Z<|A3<|Ah [6] Z (zI (T.vals.length:Int)) Z ⟨(T.vals.length:Int),_,T.put (⟨op,ks.getD 0 0,ks.getD 1 0,(0:Int)⟩:AM) (if ER op (T.vals.getD ((ks.getD 1 0).toNat) 0)then 0 else In op (T.vals.getD ((ks.getD 0 0).toNat) 0) (T.vals.getD ((ks.getD 1 0).toNat) 0)),c0,rfl,b9,⟨_,_,_,b6,b7⟩,Qc,oM,Qb,oM,Qa⟩
  refine Ag (by first|rfl|exact zW av)<|qS [0,0,0,4] Z<|Af 1 Z<|Be Z Ac<|Aq (p:=zP g) 7 Gc Z Z Ac (BB (k:=7) (w:=c7) I0 Z Z ⟨rfl,rfl⟩ a7 sM Ac fun co ab c8 ak=>?_)
  replace ak:BX co.heap g [vp,zI ip,rc0,rg0,zN,rv0,zI (s0:Int),zI ((6:Nat):Int)]:=ak
  have c9:Az S w co:=ar.trans (ab.sub (Bq hgS))
  have ba:=CT.chg au ab
  have bb:=aa.set hgS ab
  have bp:c7.heap.size≤co.heap.size:=ab.size
  exact Ai<|qT Z<|A3<|Ap<|Ah [6] Z (zI ((0:Nat):Int)) Z ⟨((0:Nat):Int),_,T,((6:Nat):Int),rfl,bb,⟨_,_,_,ak,ba⟩,Qc,oM,Qb,oM,Qa⟩
 refine B4 false Z Z (A8 aq) Ac<|Ai<|Aj Z<|A4<|A0<|AW _ [1,0,0,0,1,0,1,0,1,0,0,0,1,0,1,0,1,3,0,0,0,0,0] mixed (by kernel_rfl)<|AZ (p:=zP w.heap.size) (.inl Z) [zI op,zI<|ks.getD 0 0,zI (0:Int),zI (0:Int)] Ig Z (fun cn aj=>LD.of_box<|BX.ext (w:=w6.drew) ag aj) Z Ac<|Af 1 Z<|Be Z Ac<|Aq (p:=zP g) 5 Ed Z Z Ac<|Al (p:=AA (zP g) 5) (.inl Z) rv0 B7 Z (az.ldp (i:=5) sM) Ac<|Aq (p:=zP w.heap.size) 1 Fd Z Z Ac ?_
 refine Al (p:=AA (zP w.heap.size) 1) (.inl Z) (zI<|ks.getD 0 0) AO Z (ag.ldp (i:=1) sM) Ac<|Aw (v:=rv0) ((ks.getD 0 0).toNat) Bm BM Z Z (CT.slv af) oM oM Ac (Al (p:=Ax rv0 ((ks.getD 0 0).toNat) 1) (.inl Z) (zI<|T.vals.getD ((ks.getD 0 0).toNat) 0) AO Z ((CT.rdv af).getI oM).1 Ac (Af 1 Z<|Be Z Ac<|Aq (p:=zP g) 5 Ed Z Z Ac<|Al (p:=AA (zP g) 5) (.inl Z) rv0 B7 Z (az.ldp (i:=5) sM) Ac<|Aq (p:=zP w.heap.size) 2 EJ Z Z Ac ?_))
 refine Al (p:=AA (zP w.heap.size) 2) (.inl Z) (zI (0:Int)) AO Z (ag.ldp (i:=2) sM) Ac<|Aw (v:=rv0) ((0:Int).toNat) Bm BM Z Z (CT.slv af) oM oM Ac (Al (p:=Ax rv0 ((0:Int).toNat) 1) (.inl Z) (zI<|T.vals.getD ((0:Int).toNat) 0) AO Z ((CT.rdv af).getI oM).1 Ac (As 258 [] [] [.agg #[zI op,zI<|ks.getD 0 0,zI (0:Int),zI (0:Int)],zI<|T.vals.getD ((ks.getD 0 0).toNat) 0,zI<|T.vals.getD ((0:Int).toNat) 0] Z Z eF Ac (Ik _ (op) (ks.getD 0 0) (0:Int) (0:Int) _ _ _hop am.2 oM oM ((CT.rdv af).getI oM).2 ((CT.rdv af).getI oM).2 oM) ?_))
 rintro d0 ca ⟨rfl,a1⟩
 refine⟨_,rfl,a1,?_⟩
 replace a1:=a1.of_drew
 have bq:w6.heap.size≤ca.heap.size:=a1.size
 have aw:Az S w ca:=b3.ext a1
 have ac:=az.ext a1
 have a6:=ag.ext a1
 have cb:=(CT.rdv af).ext g1 a1
 have ax:=CT.ext af a1
 have ad:=bj.ext a1
 refine Af 1 Z<|AI (vs:=[zI (if ER op (T.vals.getD ((0:Int).toNat) 0)then 0 else In op (T.vals.getD ((ks.getD 0 0).toNat) 0) (T.vals.getD ((0:Int).toNat) 0)),.bool (!decide (ER op<|T.vals.getD ((0:Int).toNat) 0))]) (zI (if ER op (T.vals.getD ((0:Int).toNat) 0)then 0 else In op (T.vals.getD ((ks.getD 0 0).toNat) 0) (T.vals.getD ((0:Int).toNat) 0))) Z Z Ac<|AI (vs:=[zI (if ER op (T.vals.getD ((0:Int).toNat) 0)then 0 else In op (T.vals.getD ((ks.getD 0 0).toNat) 0) (T.vals.getD ((0:Int).toNat) 0)),.bool (!decide (ER op<|T.vals.getD ((0:Int).toNat) 0))]) (.bool (!decide (ER op<|T.vals.getD ((0:Int).toNat) 0))) Z Z Ac<|Ae 2 Z<|A0<|qS [0,0] Z ?_
 have hvr:0≤(if ER op (T.vals.getD ((0:Int).toNat) 0)then 0 else In op (T.vals.getD ((ks.getD 0 0).toNat) 0) (T.vals.getD ((0:Int).toNat) 0))∧(if ER op (T.vals.getD ((0:Int).toNat) 0)then 0 else In op (T.vals.getD ((ks.getD 0 0).toNat) 0) (T.vals.getD ((0:Int).toNat) 0))<1000003:=Tq _ _ _
 refine Af 1 Z<|BH (!(!decide (ER op<|T.vals.getD ((0:Int).toNat) 0))) Z Z Ac<|Ai ?_
 cases ay:(!(!decide (ER op (T.vals.getD ((0:Int).toNat) 0))))
 ·refine Aj (by first|rfl|exact zW ay)<|A4<|qS [0,2,0,4,0] Z<|Af 1 Z<|AZ (p:=zP w.heap.size) (.inr Z) [zI op,zI<|ks.getD 0 0,zI (0:Int),zI (0:Int)] Ig Z (fun cn aj=>LD.of_box<|BX.ext (w:=ca) a6 aj) Z Ac<|Af 1 Z ?_
  refine AE 101 [] [] [zP g,.agg #[zI op,zI<|ks.getD 0 0,zI (0:Int),zI (0:Int)],zI (if ER op (T.vals.getD ((0:Int).toNat) 0)then 0 else In op (T.vals.getD ((ks.getD 0 0).toNat) 0) (T.vals.getD ((0:Int).toNat) 0))] Z Z TY Ac (D5 _ S g vp ip (s0) (c0) (T) (⟨op,ks.getD 0 0,(0:Int),(0:Int)⟩:AM) (if ER op (T.vals.getD ((0:Int).toNat) 0)then 0 else In op (T.vals.getD ((ks.getD 0 0).toNat) 0) (T.vals.getD ((0:Int).toNat) 0)) (fun b hb=>(ad.lt b hb:b<ca.heap.size)) (ad.sub _ hgS) ⟨_,_,_,ac,ax⟩ _hip (by exact hbd.ln hs0) ⟨_hop,am.2,(show BI (0:Int)from by omega),(show BI (0:Int)from by omega)⟩ (by have:=PD op (T.vals.getD ((ks.getD 0 0).toNat) 0) (T.vals.getD ((0:Int).toNat) 0);split <;> omega)) ?_
  rintro d1 cr ⟨cu,rfl,a5,cw,vg36,vv36,bc,bd⟩
  refine⟨_,rfl,?_⟩
  have br:ca.heap.size≤cr.heap.size:=a5.chg.size
  have cc:Az S w cr:=aw.stp a5.chg ad.new
  have be:w.heap.size∉cu:=fun hm=>(a5.new _ hm).elim (fun hm=>EP) (fun h9=>by omega)
  have bf:=ad.trans a5
  have bs:(T.put (⟨op,ks.getD 0 0,(0:Int),(0:Int)⟩:AM) (if ER op (T.vals.getD ((0:Int).toNat) 0)then 0 else In op (T.vals.getD ((ks.getD 0 0).toNat) 0) (T.vals.getD ((0:Int).toNat) 0))).vals.length=T.vals.length+1:=HU _ _ _
  have bt:(T.put (⟨op,ks.getD 0 0,(0:Int),(0:Int)⟩:AM) (if ER op (T.vals.getD ((0:Int).toNat) 0)then 0 else In op (T.vals.getD ((ks.getD 0 0).toNat) 0) (T.vals.getD ((0:Int).toNat) 0))).grd.length=T.grd.length:=rfl
  exact Ae 1 Z<|A3<|Ah [6] Z (zI (T.vals.length:Int)) Z ⟨(T.vals.length:Int),_,T.put (⟨op,ks.getD 0 0,(0:Int),(0:Int)⟩:AM) (if ER op (T.vals.getD ((0:Int).toNat) 0)then 0 else In op (T.vals.getD ((ks.getD 0 0).toNat) 0) (T.vals.getD ((0:Int).toNat) 0)),c0,rfl,bf,⟨_,_,_,bc,bd⟩,Qc,oM,Qb,oM,Qa⟩
 refine Ag (by first|rfl|exact zW ay)<|qS [0,0,0,4] Z<|Af 1 Z<|Be Z Ac<|Aq (p:=zP g) 7 Gc Z Z Ac (BB (k:=7) (w:=ca) I0 Z Z ⟨rfl,rfl⟩ ac sM Ac fun cp ae ce al=>?_)
 replace al:BX cp.heap g [vp,zI ip,rc0,rg0,zN,rv0,zI (s0:Int),zI ((6:Nat):Int)]:=al
 have cf:Az S w cp:=aw.trans (ae.sub (Bq hgS))
 have bg:=CT.chg ax ae
 have bh:=ad.set hgS ae
 have bu:ca.heap.size≤cp.heap.size:=ae.size
 exact Ai<|qT Z<|A3<|Ap<|Ah [6] Z (zI ((0:Nat):Int)) Z ⟨((0:Nat):Int),_,T,((6:Nat):Int),rfl,bh,⟨_,_,_,al,bg⟩,Qc,oM,Qb,oM,Qa⟩
theorem Sy (F d:Nat)(IH:∀d',d'<d→nI F d'):r9 F d:=by
 intro w S g vp dp ip s0 c0 p T vl l vv env hS hgS hR0 hp hip hs0 hc0 hbd hl henv hqenv hvp hF hwf hdp hll hen
 exact Jo w S F g vp dp ip s0 c0 p T d vl l vv env hS hgS hR0 hp hip hs0 hc0 hbd hl henv hqenv hvp hF hwf hdp hll hen IH
theorem Fe {p:Prop}(h:p:=by first|exact ZU oM|exact UF oM oM|exact fS hc00 hs1 oM|exact fT hc00 hs1 oM|exact fU hc00 hs1 oM oM hL1 oM|exact fV hc00 hs1 oM oM hL1 oM (by assumption) hL2|exact fW hc00 hs1 oM oM hL1 oM (by assumption) hL2|exact fX hc00 hs1 oM oM hL1 hL2|exact Xd hc00 hs1 hkg.1 hkg.2.1 hkg.2.2.1 hkg.2.2.2 hKr oM|exact ZV hc00 hs1 oM oM hKr oM hL2|exact ZW hc00 hs1 oM oM hKr oM (ZY hrl9 oM oM)|exact jT hc00 hs1 hkg.1 hkg.2.1 hkg.2.2.1 hkg.2.2.2 oM oM hKr oM hL2):p:=h
theorem Ff {p:Prop}(h:p:=by first|(intro h9;exact absurd h9 oM)|assumption|(intro h9;omega)|(intro h9;have:=hkb9 h9;omega)):p:=h
theorem I6 {p:Prop}(h:p:=by first|assumption|exact hbd.up oM|exact LV.guard (by assumption) _ _ oM):p:=h
theorem Fh {p:Prop}(h:p:=by first|assumption|exact hbd.put _ oM|exact LV.dn (by assumption) oM oM):p:=h
theorem Jp (w:World)(S:List Nat)(F:Nat)(g:Nat)(vp:Value)(dp:Nat)(ip:Int)(s0:Nat)(c0:Int)(p:List Fn)(T:Tp)(dex:Nat)(ve:Value)(ex:Ex)(vv:Value)(env:Sr)(hS:∀b∈S,b<w.heap.size)(hgS:g∈S)(hR0:UV 69 208 2 S g w.heap vp ip T s0 c0)(hp:RP S dp w.heap vp p)(_hip:BI ip)(hs0:s0≤3000)(hc0:0≤c0∧c0≤9)(hbd:LV T s0)(hex:RX S dex w.heap ve ex)(henv:RN S (B3 rI) w.heap vv env)(hqenv:Cj vv)(hvp:J2 p)(hF:F≤p.length)(hwf:wf p (F:Int) ex (env.length:Int)=true)(hdp:env.length+ex.deep≤1000000)(hen:c0=0→Lu T env)(IH1:∀F',F'<F→∀d,nI F' d)(IH2:∀d',d'<dex→nI F d') :
  Calls Tryz.prog 181 #[zP g,(.agg #[(zI ex.kind),(zI ex.num),(zI ex.pick),(zI ex.count),ve]),vv] w (fun e w'=>∃(r:Int) (S':List Nat) (T':Tp) (s1:Nat) (c1:Int),e=.returned (zI r)∧GH S S' w w'∧UV 69 208 2 S' g w'.heap vp ip T' s1 c1∧cI T T' s0 s1 c1∧(c1=0→0≤r∧r<(T'.vals.length:Int))∧(BI r)∧AX (go c0 (Id (M4 p F) ex env s0 T)) (r,T') s1 c1):=by
 refine At [zP g,.agg #[zI ex.kind,zI ex.num,zI ex.pick,zI ex.count,ve],vv] 190 Tryz.func181 Z Z sM ?_
 have j4:Az S w w:=Az.refl S w
 have lf:=hp.lenle
 unfold maxLen at lf
 have lg:=hex.rn.lenle
 unfold maxLen at lg
 have lh:=henv.lenL
 unfold maxLen at lh
 obtain⟨rc0,rg0,rv0,g9,j5⟩:=hR0
 have nk:=g9.lt
 have hG0:GH S S w w:=GH.refl hS
 have hdk:=EW ex
 refine qS [3,0] Z ?_
 have ky:=g9.lt
 refine C8 (cs:=#[zI ex.kind,zI ex.num,zI ex.pick,zI ex.count,ve]) Z Ac fun w1 d3 ka g0=>?_
 have ga:w.heap.size≤w1.heap.size:=d3.size
 have gb:Az S w w1:=j4.ext d3
 have ai:=g9.ext d3
 have g2:=CT.ext j5 d3
 have g3:=hG0.ext d3
 replace g0:BX w1.heap w.heap.size [zI ex.kind,zI ex.num,zI ex.pick,zI ex.count,ve]:=g0
 refine Ae 1 Z<|A0<|qS [0,0,0,2,0] Z<|Af 1 Z<|Be Z Ac<|Aq (p:=zP g) 7 Gc Z Z Ac<|Al (p:=AA (zP g) 7) (.inr Z) (zI c0) AO Z (ai.ldp (i:=7) sM) Ac ?_
 by_cases j6:c0≠((0:Nat):Int)
 ·refine B4 true Z Z (A7 j6) Ac<|Ai<|Ag Z<|qT Z<|A3<|Ap ?_
  exact Ah [6] Z (zI ((0:Nat):Int)) Z ⟨((0:Nat):Int),_,T,s0,c0,rfl,g3,⟨_,_,_,ai,g2⟩,⟨Fh,oM⟩,Ff,oM,Fe⟩
 refine B4 false Z Z (A8 j6) Ac<|Ai<|Aj Z<|A4<|A0<|qS [0,0,0,2,0] Z<|Af 1 Z<|Be Z Ac<|Aq (p:=zP g) 6 PX Z Z Ac<|Al (p:=AA (zP g) 6) (.inr Z) (zI (s0:Int)) AO Z (ai.ldp (i:=6) sM) Ac ?_
 by_cases j7:(s0:Int)=((3000:Nat):Int)
 ·refine Av true Z Z (A7 j7) Ac<|Ai<|Ag Z<|qS [0,0,0,4] Z<|Af 1 Z<|Be Z Ac<|Aq (p:=zP g) 7 Gc Z Z Ac (BB (k:=7) (w:=w1) I0 Z Z ⟨rfl,rfl⟩ ai sM Ac fun w6 d4 kz gc=>?_)
  replace gc:BX w6.heap g [vp,zI ip,rc0,rg0,zN,rv0,zI (s0:Int),zI ((7:Nat):Int)]:=gc
  have l0:Az S w w6:=gb.trans (d4.sub (Bq hgS))
  have kb:=CT.chg g2 d4
  have kc:=g3.set hgS d4
  have kd:w1.heap.size≤w6.heap.size:=d4.size
  have ke:=g0.chg d4 (zB ·)
  refine Ai<|qT Z<|A3<|Ap ?_
  exact Ah [6] Z (zI ((0:Nat):Int)) Z ⟨((0:Nat):Int),_,T,s0,((7:Nat):Int),rfl,kc,⟨_,_,_,gc,kb⟩,⟨Fh,oM⟩,Ff,oM,Fe⟩
 refine Av false Z Z (A8 j7) Ac<|Ai<|Aj Z<|A4<|qS [0,0,0,2,0,0,0,4] Z<|Af 1 Z<|Be Z Ac<|Aq (p:=zP g) 6 PX Z Z Ac<|Al (p:=AA (zP g) 6) (.inr Z) (zI (s0:Int)) AO Z (ai.ldp (i:=6) sM) Ac<|AG ((s0+1:Nat):Int) Z Z (Bd oM oM) Ac<|Be Z Ac<|Aq (p:=zP g) 6 PX Z Z Ac (BB (k:=6) (w:=w1) I0 Z Z ⟨rfl,rfl⟩ ai sM Ac fun f4 b0 gd aw=>?_)
 replace aw:BX f4.heap g [vp,zI ip,rc0,rg0,zN,rv0,zI ((s0+1:Nat):Int),zI c0]:=aw
 have a4:Az S w f4:=gb.trans (b0.sub (Bq hgS))
 have b1:=CT.chg g2 b0
 have a0:=g3.set hgS b0
 have d5:w1.heap.size≤f4.heap.size:=b0.size
 have ac:=g0.chg b0 (zB ·)
 refine Ai<|A0<|qS [0,2] Z ?_
 have hc00:c0=0:=by omega
 have hs1:s0+1≤3000:=by omega
 have ax:=hen hc00
 have kf:=hbd.up (s':=s0+1) oM
 have hbn:=hbd.2
 refine Aq (p:=zP w.heap.size) 0 Bz Z Z Ac<|Al (p:=AA (zP w.heap.size) 0) (.inr Z) (zI ex.kind) AO Z (ac.ldp (i:=0) sM) Ac<|Ai<|A5<|qS [0,0] Z ?_
 by_cases d6:ex.kind=((1:Nat):Int)
 ·refine Av true Z Z (A7 d6) Ac<|Ae 1 Z<|Ag Z<|qS [0,0,2,0,0,2,4,0] Z ?_
  have hwk:=VU hwf oM
  refine Af 1 Z<|Aq (p:=zP w.heap.size) 1 Co Z Z Ac<|Al (p:=AA (zP w.heap.size) 1) (.inr Z) (zI ex.num) AO Z (ac.ldp (i:=1) sM) Ac ?_
  have d7:∀(wq:World),(Instr.build 69 #[(0,zI ((2:Nat):Int)),(3,zI ex.num)]).run Tryz.prog wq=.ok (.agg #[zI ((2:Nat):Int),zI 0,zI 0,zI ex.num]) wq:=by intro wq;kernel_rfl
  refine Ce (ps:=#[(0,zI ((2:Nat):Int)),(3,zI ex.num)]) (.agg #[zI ((2:Nat):Int),zI 0,zI 0,zI ex.num]) (by simp only[zc,zf,zh];rfl) (fun wq=>d7  wq) Ac<|Aq (p:=zP w.heap.size) 1 Co Z Z Ac<|Al (p:=AA (zP w.heap.size) 1) (.inr Z) (zI ex.num) AO Z (ac.ldp (i:=1) sM) Ac ?_
  refine AE 101 [] [] [zP g,.agg #[zI ((2:Nat):Int),zI (0:Int),zI (0:Int),zI ex.num],zI ex.num] Z Z TY Ac (D5 _ S g vp ip (s0+1) (c0) (T) (⟨((2:Nat):Int),(0:Int),(0:Int),ex.num⟩:AM) (ex.num) (fun b hb=>(a0.lt b hb:b<f4.heap.size)) (a0.sub _ hgS) ⟨_,_,_,aw,b1⟩ _hip (by exact LV.ln (by assumption) oM) ⟨(show BI ((2:Nat):Int)from by omega),(show BI (0:Int)from by omega),(show BI (0:Int)from by omega),hex.rng.num⟩ hex.rng.num) ?_
  rintro nl mc ⟨ms,rfl,an,mt,vg18,vv18,ge,gf⟩
  refine⟨_,rfl,?_⟩
  have j8:f4.heap.size≤mc.heap.size:=an.chg.size
  have kg:Az S w mc:=a4.stp an.chg a0.new
  have kh:=ac.chg an.chg fun hm=>EP
  have gg:w.heap.size∉ms:=fun hm=>(an.new _ hm).elim (fun hm=>EP) (fun h9=>by omega)
  have gh:=a0.trans an
  have j9:(T.put (⟨((2:Nat):Int),(0:Int),(0:Int),ex.num⟩:AM) (ex.num)).vals.length=T.vals.length+1:=HU _ _ _
  have ja:(T.put (⟨((2:Nat):Int),(0:Int),(0:Int),ex.num⟩:AM) (ex.num)).grd.length=T.grd.length:=rfl
  refine Ae 1 Z<|A3<|AK<|Ap ?_
  exact Ah [6] Z (zI (T.vals.length:Int)) Z ⟨(T.vals.length:Int),_,T.put (⟨((2:Nat):Int),(0:Int),(0:Int),ex.num⟩:AM)<|ex.num,s0+1,c0,rfl,gh,⟨_,_,_,ge,gf⟩,⟨Fh,oM⟩,Ff,oM,Fe⟩
 refine Av false Z Z (A8 d6) Ac<|Ae 1 Z<|Aj Z<|qS [0,0] Z ?_
 by_cases d8:ex.kind=((2:Nat):Int)
 ·refine Av true Z Z (A7 d8) Ac<|Ae 1 Z<|Ag Z<|qS [0,0,2,0,2,0] Z ?_
  have hwk:=VV hwf oM
  have hRv:=ax ex.num.toNat oM
  refine Af 1 Z<|Aq (p:=zP w.heap.size) 1 Co Z Z Ac<|Al (p:=AA (zP w.heap.size) 1) (.inr Z) (zI ex.num) AO Z (ac.ldp (i:=1) sM) Ac<|Aw (v:=vv) ((ex.num).toNat) Bm BM Z Z henv.slL oM oM Ac ?_
  have da:=RN.getI (w:=w) (k:=(ex.num).toNat) henv oM
  refine Al (p:=Ax vv ((ex.num).toNat) 1) (.inr Z) (zI<|env.getD ((ex.num).toNat) 0) AO Z (da.1 _ a4) Ac<|Ae 1 Z<|A3<|AK<|Ap ?_
  exact Ah [6] Z (zI<|env.getD ((ex.num).toNat) 0) Z ⟨env.getD ((ex.num).toNat) 0,_,T,s0+1,c0,rfl,a0,⟨_,_,_,aw,b1⟩,⟨Fh,oM⟩,Ff,da.2,Fe⟩
 refine Av false Z Z (A8 d8) Ac<|Ae 1 Z<|Aj Z<|qS [0,0] Z ?_
 by_cases db:ex.kind=((8:Nat):Int)
 ·refine Av true Z Z (A7 db) Ac<|Ae 1 Z<|Ag Z<|qS [0,0,2,0,2,0,4,0] Z ?_
  have hwk:=cE hwf oM
  refine Af 1 Z<|Aq (p:=zP w.heap.size) 4 Bt Z Z Ac<|Al (p:=AA (zP w.heap.size) 4) (.inr Z) ve BA Z (ac.ldp (i:=4) sM) Ac<|Aw (v:=ve) 0 DE BE Z Z hex.rn.isSl Z sD Ac ?_
  obtain⟨cs28,gi,gj⟩:=hex.rn.get (AL dex) Ex.zero (k:=0) sD
  obtain⟨dd28,cc,ki,rfl,cd⟩:=RX.of gi
  have dc:=cd.rn.lenle
  unfold maxLen at dc
  refine AZ (p:=Ax ve 0 5) (.inr Z) [zI<|(ex.kids.getD 0 Ex.zero).kind,zI<|(ex.kids.getD 0 Ex.zero).num,zI<|(ex.kids.getD 0 Ex.zero).pick,zI<|(ex.kids.getD 0 Ex.zero).count,cc] Bi Z (fun l7 ce=>gj l7<|a4.ext ce) Z Ac<|Af 1 Z ?_
  refine AE 181 [] [] [zP g,.agg #[zI<|(ex.kids.getD 0 Ex.zero).kind,zI<|(ex.kids.getD 0 Ex.zero).num,zI<|(ex.kids.getD 0 Ex.zero).pick,zI<|(ex.kids.getD 0 Ex.zero).count,cc],vv] Z Z NC Ac (IH2 dd28 oM _ S g vp dp ip (s0+1) (c0) p (T) cc (ex.kids.getD 0 Ex.zero) vv (env) (fun b hb=>(a0.lt b hb:b<f4.heap.size)) (a0.sub _ hgS) ⟨_,_,_,aw,b1⟩ (RN.stp (Am<|AC dp) hp a4 a0.new) _hip oM oM I6 ⟨cd.rng,RN.stp (Am<|AL dd28) cd.rn a4 a0.new⟩ (RN.stp g1 henv a4 a0.new) hqenv hvp oM (by exact H1 hwf oM oM) (zH<|FV (l:=ex.kids) (k:=0) oM) (by exact fun _=>ax)) ?_
  rintro nm l6 ⟨f1,m2,f2,ly,lb,rfl,ao,⟨li,vg29,vv29,b4,b5⟩,dd,de,df,dg⟩
  refine⟨_,rfl,?_⟩
  have jb:f4.heap.size≤l6.heap.size:=ao.chg.size
  have dh:Az S w l6:=a4.stp ao.chg a0.new
  have di:=ac.chg ao.chg fun hm=>EP
  have b6:w.heap.size∉m2:=fun hm=>(ao.new _ hm).elim (fun hm=>EP) (fun h9=>by omega)
  have bi:=a0.trans ao
  have jc:=dd.bnd
  have jd:=dd.num
  have gk:=de
  have hL1:=dg
  refine Ae 1 Z<|A0<|qS [0,0,0,2,0] Z<|Af 1 Z<|Be Z Ac<|Aq (p:=zP g) 7 Gc Z Z Ac<|Al (p:=AA (zP g) 7) (.inr Z) (zI lb) AO Z (b4.ldp (i:=7) sM) Ac ?_
  by_cases dj:lb≠((0:Nat):Int)
  ·refine B4 true Z Z (A7 dj) Ac<|Ai<|Ag Z<|qT Z<|A3<|Ap<|AK<|Ap ?_
   exact Ah [6] Z (zI ((0:Nat):Int)) Z ⟨((0:Nat):Int),_,f2,ly,lb,rfl,bi,⟨_,_,_,b4,b5⟩,⟨Fh,oM⟩,Ff,oM,Fe⟩
  refine B4 false Z Z (A8 dj) Ac<|Ai<|Aj Z<|A4<|qS [0,0,0,2,0,0,2,0,0] Z ?_
  have hR1c:=gk oM
  refine Af 1 Z<|Be Z Ac<|Aq (p:=zP g) 5 Ed Z Z Ac<|Al (p:=AA (zP g) 5) (.inr Z) vv29 B7 Z (b4.ldp (i:=5) sM) Ac<|Af 1 Z<|Aw (v:=vv29) ((f1).toNat) Bm BM Z Z (CT.slv b5) oM oM Ac (Al (p:=Ax vv29 ((f1).toNat) 1) (.inr Z) (zI<|f2.vals.getD ((f1).toNat) 0) AO Z ((CT.rdv b5).getI oM).1 Ac (Av (decide (f2.vals.getD ((f1).toNat) 0=((0:Nat):Int))) Z Z Z Ac<|Ae 1 Z<|A0 ?_))
  obtain⟨Fc38,Fg38,Fv38,b7,dk,b8,ap,az,dl,bt,dm⟩:=id b5
  refine Ad _ [0,0,0,0,0,2,0,0,0,3,4,0,0,0,4] Z<|Af 2 Z<|Be Z Ac<|Aq (p:=zP g) 1 GU Z Z Ac<|Aq (p:=AA (zP g) 1) (b:=g) (o:=1) 2 YH Z Z Ac<|Al (p:=AA (AA (zP g) 1) 2) (.inr Z) vg29 mS Z (b4.ldp (i:=3) sM) Ac<|Af 2 Z ?_
  have dn:∀(wq:World),(Instr.build 208 #[(0,zI f1),(1,.bool (decide (f2.vals.getD ((f1).toNat) 0=((0:Nat):Int))))]).run Tryz.prog wq=.ok (.agg #[zI f1,.bool (decide (f2.vals.getD ((f1).toNat) 0=((0:Nat):Int)))]) wq:=by intro wq;kernel_rfl
  refine Ce (ps:=#[(0,zI f1),(1,.bool<|decide (f2.vals.getD ((f1).toNat) 0=((0:Nat):Int)))]) (.agg #[zI f1,.bool<|decide (f2.vals.getD ((f1).toNat) 0=((0:Nat):Int))]) (by simp only[zc,zf,zh];rfl) (fun wq=>dn  wq) Ac (Gm (cs:=[zI f1,.bool<|decide (f2.vals.getD ((f1).toNat) 0=((0:Nat):Int))]) (y:=(⟨f1,decide (f2.vals.getD ((f1).toNat) 0=((0:Nat):Int))⟩:RK)) (B:=l6.heap.size) B1 r8 YI Z (by decide) Z (fR (x:=(⟨f1,decide (f2.vals.getD ((f1).toNat) 0=((0:Nat):Int))⟩:RK)) (B:=l6.heap.size) (U:=l6.heap.size) df) (A9 _) Ac fun mu m3 a7 kj gl=>?_)
  have je:l6.heap.size≤m3.heap.size:=a7.size
  have kk:Az S w m3:=dh.ext a7
  have bj:=b4.ext a7
  have g4:=di.ext a7
  have kl:=(CT.rdv b5).ext g1 a7
  have gm:=bi.ext a7
  have hOc38x:=b7.ext (Ao AT) a7
  have hOg38x:=dk.ext (Ao B1) a7
  have hOv38x:=b8.ext (Bj AS) a7
  refine PB (v:=vg29) (a:=mu) B1 r8 YI Z (by decide) Z Z hOg38x gl (A9 _) (Nat.zero_le _) (Nat.zero_le _) oM (by unfold maxLen;omega) Ac fun me l8 mf b9 dq bk=>?_
  have dr:m3.heap.size≤l8.heap.size:=b9.size
  obtain⟨lj,bu⟩:∃l:List Nat,l=mf++m2:=⟨_,rfl⟩
  have aq:GH m2 lj l6 l8:=by rw[bu];exact⟨fun b hb=>z1 _ hb,fun b hb=>by rcases zi.1 hb with hb|hb;(rcases bk b hb with h9|h9|h9;exact .inl (bt b h9);(have:=a7.size;omega);(have:=a7.size;omega));exact .inl hb,fun b hb=>by rcases zi.1 hb with hb|hb;exact dq.high b hb;(have:=gm.lt b hb;omega),(Az.of_ext _ a7).trans (b9.sub bt)⟩
  have ds:CT 69 208 2 lj g l8.heap li me vv29 (f2.guard (f1) (decide (f2.vals.getD ((f1).toNat) 0=((0:Nat):Int)))):=⟨Fc38,mf,Fv38,(hOc38x.up a7.size).chgS (Ao AT) b9 (fun b hb hm=>ap.1 b hm hb),dq,(hOv38x.up a7.size).chgS (Bj AS) b9 (fun b hb hm=>ap.2.2 b hb hm),⟨fun b hb hm=>by rcases bk b hm with h9|h9|h9;exact ap.1 b hb h9;(have:=b7.high b hb;omega);(have:=b7.high b hb;have:=a7.size;omega),ap.2.1,fun b hm hb=>by rcases bk b hm with h9|h9|h9;exact ap.2.2 b h9 hb;(have:=b8.high b hb;omega);(have:=b8.high b hb;have:=a7.size;omega)⟩,⟨az.1,fun hm=>by rcases bk g hm with h9|h9|h9;exact az.2.1 h9;omega;omega,az.2.2⟩,by rw[bu];exact⟨fun b hb=>z1 _ (dl b hb),fun b hb=>z8 _ hb,fun b hb=>z1 _ (dm b hb)⟩⟩
  have gn:=bj.chg b9 az.2.1
  have dr:l6.heap.size≤l8.heap.size:=aq.chg.size
  have gp:Az S w l8:=dh.stp aq.chg bi.new
  have gq:=di.chg aq.chg fun hm=>b6 hm
  have al:w.heap.size∉lj:=fun hm=>(aq.new _ hm).elim (fun hm=>b6 hm) (fun h9=>by omega)
  have gr:=bi.trans aq
  have jf:(f2.guard (f1) (decide (f2.vals.getD ((f1).toNat) 0=((0:Nat):Int)))).vals.length=f2.vals.length:=rfl
  have jg:(f2.guard (f1) (decide (f2.vals.getD ((f1).toNat) 0=((0:Nat):Int)))).grd.length=f2.grd.length+1:=QO _ _ _
  refine Be Z Ac<|Aq (p:=zP g) 1 GU Z Z Ac<|Aq (p:=AA (zP g) 1) (b:=g) (o:=1) 2 YH Z Z Ac (BB (k:=3) (w:=l8) qM Z Z (Bo ds.slg) gn sM Ac fun l9 ba km bl=>?_)
  replace bl:BX l9.heap g [vp,zI ip,li,me,zN,vv29,zI (ly:Int),zI lb]:=bl
  have ah:Az S w l9:=gp.trans (ba.sub (Bq hgS))
  have dt:=CT.chg ds ba
  have aa:=gr.set hgS ba
  have jh:l8.heap.size≤l9.heap.size:=ba.size
  have bm:=gq.chg ba (zB ·)
  refine Ai<|A0<|qS [0] Z<|Ae 1 Z ?_
  cases bn:(decide (f2.vals.getD ((f1).toNat) 0=((0:Nat):Int)))
  ·have ji:=of_decide_eq_false bn
   refine Aj (by first|rfl|exact zW bn)<|A4<|qS [0,0,2,0,2,0,4,0] Z<|Af 1 Z<|Aq (p:=zP w.heap.size) 4 Bt Z Z Ac<|Al (p:=AA (zP w.heap.size) 4) (.inr Z) ve BA Z (bm.ldp (i:=4) sM) Ac<|Aw (v:=ve) 2 DE BE Z Z hex.rn.isSl Z sD Ac ?_
   obtain⟨cs60,gs,gt⟩:=hex.rn.get (AL dex) Ex.zero (k:=2) sD
   obtain⟨dd60,cf,kn,rfl,cg⟩:=RX.of gs
   have du:=cg.rn.lenle
   unfold maxLen at du
   refine AZ (p:=Ax ve 2 5) (.inr Z) [zI<|(ex.kids.getD 2 Ex.zero).kind,zI<|(ex.kids.getD 2 Ex.zero).num,zI<|(ex.kids.getD 2 Ex.zero).pick,zI<|(ex.kids.getD 2 Ex.zero).count,cf] Bi Z (fun l7 ce=>gt l7<|ah.ext ce) Z Ac<|Af 1 Z ?_
   refine AE 181 [] [] [zP g,.agg #[zI<|(ex.kids.getD 2 Ex.zero).kind,zI<|(ex.kids.getD 2 Ex.zero).num,zI<|(ex.kids.getD 2 Ex.zero).pick,zI<|(ex.kids.getD 2 Ex.zero).count,cf],vv] Z Z NC Ac (IH2 dd60 oM _ lj g vp dp ip (ly) (lb) p (f2.guard (f1)<|decide (f2.vals.getD ((f1).toNat) 0=((0:Nat):Int))) cf (ex.kids.getD 2 Ex.zero) vv (env) (fun b hb=>(aa.lt b hb:b<l9.heap.size)) (aa.sub _ hgS) ⟨_,_,_,bl,dt⟩ (RN.stp (Am<|AC dp) hp ah aa.new) _hip oM oM I6 ⟨cg.rng,RN.stp (Am<|AL dd60) cg.rn ah aa.new⟩ (RN.stp g1 henv ah aa.new) hqenv hvp oM (by exact H1 hwf oM oM) (zH<|FV (l:=ex.kids) (k:=2) oM) (by exact fun _=>ax.mono (by simp only[QN];omega))) ?_
   rintro nn mg ⟨mh,mv,mw,mx,my,rfl,ar,⟨mz,vg61,vv61,gu,gv⟩,dv,dw,dx,dy⟩
   refine⟨_,rfl,?_⟩
   have jj:l9.heap.size≤mg.heap.size:=ar.chg.size
   have ko:Az S w mg:=ah.stp ar.chg aa.new
   have kp:=bm.chg ar.chg fun hm=>al hm
   have gw:w.heap.size∉mv:=fun hm=>(ar.new _ hm).elim (fun hm=>al hm) (fun h9=>by omega)
   have gx:=aa.trans ar
   have jk:=dv.bnd
   have jl:=dv.num
   have hRv:=dw
   have hL2:=dy
   refine Ae 1 Z<|A3<|AK<|Ap ?_
   exact Ah [6] Z (zI mh) Z ⟨mh,_,mw,mx,my,rfl,gx,⟨_,_,_,gu,gv⟩,⟨Fh,oM⟩,Ff,dx,Fe⟩
  have jm:=of_decide_eq_true bn
  refine Ag (by first|rfl|exact zW bn)<|qS [0,0,2,0,2,0,4,0] Z<|Af 1 Z<|Aq (p:=zP w.heap.size) 4 Bt Z Z Ac<|Al (p:=AA (zP w.heap.size) 4) (.inr Z) ve BA Z (bm.ldp (i:=4) sM) Ac<|Aw (v:=ve) 1 DE BE Z Z hex.rn.isSl Z sD Ac ?_
  obtain⟨cs72,gy,gz⟩:=hex.rn.get (AL dex) Ex.zero (k:=1) sD
  obtain⟨dd72,ch,kq,rfl,ci⟩:=RX.of gy
  have dz:=ci.rn.lenle
  unfold maxLen at dz
  refine AZ (p:=Ax ve 1 5) (.inr Z) [zI<|(ex.kids.getD 1 Ex.zero).kind,zI<|(ex.kids.getD 1 Ex.zero).num,zI<|(ex.kids.getD 1 Ex.zero).pick,zI<|(ex.kids.getD 1 Ex.zero).count,ch] Bi Z (fun l7 ce=>gz l7<|ah.ext ce) Z Ac<|Af 1 Z ?_
  refine AE 181 [] [] [zP g,.agg #[zI<|(ex.kids.getD 1 Ex.zero).kind,zI<|(ex.kids.getD 1 Ex.zero).num,zI<|(ex.kids.getD 1 Ex.zero).pick,zI<|(ex.kids.getD 1 Ex.zero).count,ch],vv] Z Z NC Ac (IH2 dd72 oM _ lj g vp dp ip (ly) (lb) p (f2.guard (f1)<|decide (f2.vals.getD ((f1).toNat) 0=((0:Nat):Int))) ch (ex.kids.getD 1 Ex.zero) vv (env) (fun b hb=>(aa.lt b hb:b<l9.heap.size)) (aa.sub _ hgS) ⟨_,_,_,bl,dt⟩ (RN.stp (Am<|AC dp) hp ah aa.new) _hip oM oM I6 ⟨ci.rng,RN.stp (Am<|AL dd72) ci.rn ah aa.new⟩ (RN.stp g1 henv ah aa.new) hqenv hvp oM (by exact H1 hwf oM oM) (zH<|FV (l:=ex.kids) (k:=1) oM) (by exact fun _=>ax.mono (by simp only[QN];omega))) ?_
  rintro no mi ⟨mj,n0,n1,n2,n3,rfl,au,⟨n4,vg73,vv73,i0,i1⟩,e0,e1,e2,e3⟩
  refine⟨_,rfl,?_⟩
  have jn:l9.heap.size≤mi.heap.size:=au.chg.size
  have kr:Az S w mi:=ah.stp au.chg aa.new
  have kt:=bm.chg au.chg fun hm=>al hm
  have i2:w.heap.size∉n0:=fun hm=>(au.new _ hm).elim (fun hm=>al hm) (fun h9=>by omega)
  have i3:=aa.trans au
  have jo:=e0.bnd
  have jp:=e0.num
  have hRv:=e1
  have hL2:=e3
  refine Ae 1 Z<|A3<|Ap<|AK<|Ap ?_
  exact Ah [6] Z (zI mj) Z ⟨mj,_,n1,n2,n3,rfl,i3,⟨_,_,_,i0,i1⟩,⟨Fh,oM⟩,Ff,e2,Fe⟩
 refine Av false Z Z (A8 db) Ac<|Ae 1 Z<|Aj Z<|qS [0,0] Z ?_
 by_cases e4:ex.kind=((9:Nat):Int)
 ·refine Av true Z Z (A7 e4) Ac<|Ae 1 Z<|Ag Z<|A0 ?_
  letI:JR:=UU S
  refine Jx.AW _ [0,0,1,0,1,0,0,0,0,1,0,1,0,3,3,3,4,0] mixed (by kernel_rfl) ?_
  have hwk:=VW hwf oM
  refine Jx.f8 (zP g) Z Ac<|Jx.Aq (p:=zP w.heap.size) 4 Bt Z Z Ac<|Jx.nQ (p:=AA (zP w.heap.size) 4) ve BA Z (fun wj hj=>(BX.chg (w:=f4.drew) (F:=S) ac hj fun hm=>zH<|hS _ hm).ldp (i:=4) sM) Ac<|Jx.Aw (v:=ve) 1 DE BE Z Z hex.rn.isSl Z sD Ac ?_
  obtain⟨cs84,i4,i5⟩:=hex.rn.get (AL dex) Ex.zero (k:=1) sD
  obtain⟨dd84,cj,ku,rfl,ck⟩:=RX.of i4
  have e5:=ck.rn.lenle
  unfold maxLen at e5
  refine Jx.jH (p:=Ax ve 1 5) [zI<|(ex.kids.getD 1 Ex.zero).kind,zI<|(ex.kids.getD 1 Ex.zero).num,zI<|(ex.kids.getD 1 Ex.zero).pick,zI<|(ex.kids.getD 1 Ex.zero).count,cj] Bi Z (fun wj hj=>i5 wj<|Az.trans a4.drew (show Az S f4.drew wj from hj)) Z Ac<|Jx.f8 vv Z Ac<|Jx.AD 228 [] [] [vv] Z Z mE Ac (Kq vv) (fun wq=>FT wq vv _ henv.slL hqenv)<|Jx.f8 (zP g) Z Ac<|Jx.Aq (p:=zP w.heap.size) 4 Bt Z Z Ac<|Jx.nQ (p:=AA (zP w.heap.size) 4) ve BA Z (fun wj hj=>(BX.chg (w:=f4.drew) (F:=S) ac hj fun hm=>zH<|hS _ hm).ldp (i:=4) sM) Ac ?_
  refine Jx.Aw (v:=ve) 0 DE BE Z Z hex.rn.isSl Z sD Ac ?_
  obtain⟨cs85,i6,i7⟩:=hex.rn.get (AL dex) Ex.zero (k:=0) sD
  obtain⟨dd85,cl,kv,rfl,cm⟩:=RX.of i6
  have e6:=cm.rn.lenle
  unfold maxLen at e6
  refine Jx.jH (p:=Ax ve 0 5) [zI<|(ex.kids.getD 0 Ex.zero).kind,zI<|(ex.kids.getD 0 Ex.zero).num,zI<|(ex.kids.getD 0 Ex.zero).pick,zI<|(ex.kids.getD 0 Ex.zero).count,cl] Bi Z (fun wj hj=>i7 wj<|Az.trans a4.drew (show Az S f4.drew wj from hj)) Z Ac<|Jx.f8 vv Z Ac ?_
  refine Jx.As 181 [] [] [zP g,.agg #[zI<|(ex.kids.getD 0 Ex.zero).kind,zI<|(ex.kids.getD 0 Ex.zero).num,zI<|(ex.kids.getD 0 Ex.zero).pick,zI<|(ex.kids.getD 0 Ex.zero).count,cl],vv] Z Z NC Ac (IH2 dd85 oM _ S g vp dp ip (s0+1) (c0) p (T) cl (ex.kids.getD 0 Ex.zero) vv (env) (fun b hb=>(a0.drew.lt b hb:b<f4.heap.size)) (a0.drew.sub _ hgS) ⟨_,_,_,aw,b1⟩ (RN.stp (Am<|AC dp) hp a4.drew a0.drew.new) _hip oM oM I6 ⟨cm.rng,RN.stp (Am<|AL dd85) cm.rn a4.drew a0.drew.new⟩ (RN.stp g1 henv a4.drew a0.drew.new) hqenv hvp oM (by exact H1 hwf oM oM) (zH<|FV (l:=ex.kids) (k:=0) oM) (by exact fun _=>ax)) ?_
  rintro np lc ⟨lz,ml,n5,n6,n7,rfl,ad,⟨n8,vg86,vv86,i8,i9⟩,e7,e8,e9,ea⟩
  refine⟨_,rfl,ad.chg,?_⟩
  replace ad:=ad.of_drew
  have jq:f4.heap.size≤lc.heap.size:=ad.chg.size
  have ia:Az S w lc:=a4.stp ad.chg a0.new
  have ib:=ac.chg ad.chg fun hm=>EP
  have bb:w.heap.size∉ml:=fun hm=>(ad.new _ hm).elim (fun hm=>EP) (fun h9=>by omega)
  have ic:=a0.trans ad
  have jr:=e7.bnd
  have js:=e7.num
  have gk:=e8
  have hL1:=ea
  refine Jx.oK<|Bs (u:=zI lz) (B:=lc.heap.size) Bc Bm BM Z Z (LR lc.heap.size lc.heap.size _ ⟨rfl,rfl⟩) (A9 _) Ac ?_
  intro n9 m0 b2 kw ie
  refine Ai ?_
  have jt:lc.heap.size≤m0.heap.size:=b2.size
  have eb:Az S w m0:=ia.ext b2
  have bo:=i8.ext b2
  have bp:=ib.ext b2
  have ig:=CT.ext i9 b2
  have cn:=ic.ext b2
  refine Jx.qX<|ZT (v:=vv) (a:=n9) (u:=zI<|lz) (r:=lz) Bm BM Z Z Z (RN.stp g1 henv eb cn.new) ie ⟨[],⟨rfl,rfl,e9⟩,fun b hb=>by cases hb⟩ (fun b hb=>(cn.lt b hb:b<m0.heap.size)) oM (by unfold maxLen;omega) Ac ?_
  intro mn m1 ay ec ed
  refine Ai ⟨JR.ext ay,?_⟩
  have ju:m0.heap.size≤m1.heap.size:=ay.size
  have co:Az S w m1:=eb.ext ay
  have bq:=bo.ext ay
  have br:=bp.ext ay
  have ih:=CT.ext ig ay
  have b3:=cn.ext ay
  refine Jx.ZL Z ?_
  refine AE 181 [] [] [zP g,.agg #[zI<|(ex.kids.getD 1 Ex.zero).kind,zI<|(ex.kids.getD 1 Ex.zero).num,zI<|(ex.kids.getD 1 Ex.zero).pick,zI<|(ex.kids.getD 1 Ex.zero).count,cj],mn] Z Z NC Ac (IH2 dd84 oM _ ml g vp dp ip (n6) (n7) p (n5) cj (ex.kids.getD 1 Ex.zero) mn (env++[lz]) (fun b hb=>(b3.lt b hb:b<m1.heap.size)) (b3.sub _ hgS) ⟨_,_,_,bq,ih⟩ (RN.stp (Am<|AC dp) hp co b3.new) _hip oM oM I6 ⟨ck.rng,RN.stp (Am<|AL dd84) ck.rn co b3.new⟩ ec ed hvp oM (by have h9:=N7 hwf oM oM;rw[z4,zd];exact h9) (by have:=FV (l:=ex.kids) (k:=1) oM;rw[z4,zd];omega) (by exact fun h9=>Lu.snoc (ax.mono oM)<|gk h9)) ?_
  rintro nq mo ⟨mp,na,nb,nc,nd,rfl,af,⟨nf,vg99,vv99,ii,ij⟩,ee,ef,eg,eh⟩
  refine⟨_,rfl,?_⟩
  have jv:m1.heap.size≤mo.heap.size:=af.chg.size
  have kx:Az S w mo:=co.stp af.chg b3.new
  have jw:=br.chg af.chg fun hm=>bb hm
  have g5:w.heap.size∉na:=fun hm=>(af.new _ hm).elim (fun hm=>bb hm) (fun h9=>by omega)
  have jx:=RN.stp g1 ec af.chg af.new
  have ik:=b3.trans af
  have jy:=ee.bnd
  have jz:=ee.num
  have hRv:=ef
  have hL2:=eh
  refine Ae 1 Z<|A3<|AK<|Ap ?_
  exact Ah [6] Z (zI mp) Z ⟨mp,_,nb,nc,nd,rfl,ik,⟨_,_,_,ii,ij⟩,⟨Fh,oM⟩,Ff,eg,Fe⟩
 refine Av false Z Z (A8 e4) Ac<|Ae 1 Z<|Aj Z<|A4<|qS [0,0,2,0,4,0] Z ?_
 have hkg:ex.kind≠1∧ex.kind≠2∧ex.kind≠8∧ex.kind≠9:=by omega
 have l1:=fC hwf hvp hF
 refine Af 1 Z<|Aq (p:=zP w.heap.size) 4 Bt Z Z Ac<|Al (p:=AA (zP w.heap.size) 4) (.inr Z) ve BA Z (ac.ldp (i:=4) sM) Ac<|Af 1 Z ?_
 refine AE 102 [] [] [zP g,ve,vv] Z Z Ym Ac (Sy F dex (fun d9 h9=>IH2 d9 oM) _ S g vp dp ip (s0+1) (c0) p (T) ve (ex.kids) vv (env) (fun b hb=>(a0.lt b hb:b<f4.heap.size)) (a0.sub _ hgS) ⟨_,_,_,aw,b1⟩ (RN.stp (Am<|AC dp) hp a4 a0.new) _hip oM oM I6 (RN.stp (Am<|AL dex) hex.rn a4 a0.new) (RN.stp g1 henv a4 a0.new) hqenv hvp oM (by intro k hk;exact H1 hwf hk oM) (by intro k hk;have:=FV (l:=ex.kids) (k:=k) hk;omega) oM (by exact fun _=>ax)) ?_
 rintro ng fe ⟨fx,f3,l3,l4,fr,fs,rfl,ag,⟨lk,vg109,vv109,aj,av⟩,bv,ei,bc,cp,cq,cr⟩
 refine⟨_,rfl,?_⟩
 have ct:f4.heap.size≤fe.heap.size:=ag.chg.size
 have a8:Az S w fe:=a4.stp ag.chg a0.new
 have ae:=ac.chg ag.chg fun hm=>EP
 have ab:w.heap.size∉l3:=fun hm=>(ag.new _ hm).elim (fun hm=>EP) (fun h9=>by omega)
 have a1:=a0.trans ag
 have il:=bv.bnd
 have im:=bv.num
 have hKr:=cr
 have hKb:=cq
 have hKl:=cp
 have am:=ei.rn
 refine Ae 1 Z<|A0<|qS [0,0,0,2,0] Z<|Af 1 Z<|Be Z Ac<|Aq (p:=zP g) 7 Gc Z Z Ac<|Al (p:=AA (zP g) 7) (.inr Z) (zI fs) AO Z (aj.ldp (i:=7) sM) Ac ?_
 by_cases bw:fs≠((0:Nat):Int)
 ·refine B4 true Z Z (A7 bw) Ac<|Ai<|Ag Z<|qT Z<|A3<|Ap ?_
  exact Ah [6] Z (zI ((0:Nat):Int)) Z ⟨((0:Nat):Int),_,l4,fr,fs,rfl,a1,⟨_,_,_,aj,av⟩,⟨Fh,oM⟩,Ff,oM,Fe⟩
 refine B4 false Z Z (A8 bw) Ac<|Ai<|Aj Z<|A4<|A0<|qS [0,2] Z<|Aq (p:=zP w.heap.size) 0 Bz Z Z Ac<|Al (p:=AA (zP w.heap.size) 0) (.inr Z) (zI ex.kind) AO Z (ae.ldp (i:=0) sM) Ac<|Ai<|A5<|qS [0,0] Z ?_
 by_cases bx:ex.kind=((10:Nat):Int)
 ·refine Av true Z Z (A7 bx) Ac<|Ae 1 Z<|Ag Z<|A0<|AW _ [0,0,0,0,0,1,0,1,0,0,1,0,1,0,1,0,4,0] mixed (by kernel_rfl) ?_
  have hwk:=Mn hwf oM
  refine Af 2 Z ?_
  have hvo:=hvp.outs (ex.num).toNat oM
  have hvd:=hvp.deep (ex.num).toNat oM (ex.pick).toNat oM
  refine Be Z Ac<|Aq (p:=zP g) 0 U9 Z Z Ac<|Aq (p:=AA (zP g) 0) (b:=g) (o:=0) 0 BQ Z Z Ac<|Al (p:=AA (AA (zP g) 0) 0) (.inl Z) vp Cr Z (aj.ldp (i:=0) sM) Ac<|Aq (p:=zP w.heap.size) 1 Co Z Z Ac<|Al (p:=AA (zP w.heap.size) 1) (.inl Z) (zI ex.num) AO Z (ae.ldp (i:=1) sM) Ac ?_
  refine Aw (v:=vp) ((ex.num).toNat) H6 CM Z Z hp.isSl oM sD Ac ?_
  obtain⟨cs118,ej,bz⟩:=hp.get (AC dp) Fn.zero (k:=(ex.num).toNat) sD
  obtain⟨bd,rfl,be⟩:=RF.of ej
  have cu:=be.rn.lenle
  unfold maxLen at cu
  refine AP (p:=Ax vp ((ex.num).toNat) 3) 2 Cn Z (bz _ a8.drew) Ac<|Al (p:=AA (Ax vp ((ex.num).toNat) 3) 2) (.inl Z) bd BA Z ((bz _ a8.drew).ld (i:=2) (by simp[Dd,FU])) Ac<|Aq (p:=zP w.heap.size) 2 EK Z Z Ac<|Al (p:=AA (zP w.heap.size) 2) (.inl Z) (zI ex.pick) AO Z (ae.ldp (i:=2) sM) Ac ?_
  refine Aw (v:=bd) ((ex.pick).toNat) DE BE Z Z be.rn.isSl oM sD Ac ?_
  obtain⟨cs119,ek,el⟩:=be.rn.get (AL dp) Ex.zero (k:=(ex.pick).toNat) sD
  obtain⟨dd119,bf,k0,rfl,bg⟩:=RX.of ek
  have cv:=bg.rn.lenle
  unfold maxLen at cv
  refine AZ (p:=Ax bd ((ex.pick).toNat) 5) (.inl Z) [zI<|(((p.getD ((ex.num).toNat) Fn.zero).outs).getD ((ex.pick).toNat) Ex.zero).kind,zI<|(((p.getD ((ex.num).toNat) Fn.zero).outs).getD ((ex.pick).toNat) Ex.zero).num,zI<|(((p.getD ((ex.num).toNat) Fn.zero).outs).getD ((ex.pick).toNat) Ex.zero).pick,zI<|(((p.getD ((ex.num).toNat) Fn.zero).outs).getD ((ex.pick).toNat) Ex.zero).count,bf] Bi Z (fun l7 ce=>el l7<|a8.drew.ext ce) Z Ac<|Af 1 Z ?_
  refine AE 181 [] [] [zP g,.agg #[zI<|(((p.getD ((ex.num).toNat) Fn.zero).outs).getD ((ex.pick).toNat) Ex.zero).kind,zI<|(((p.getD ((ex.num).toNat) Fn.zero).outs).getD ((ex.pick).toNat) Ex.zero).num,zI<|(((p.getD ((ex.num).toNat) Fn.zero).outs).getD ((ex.pick).toNat) Ex.zero).pick,zI<|(((p.getD ((ex.num).toNat) Fn.zero).outs).getD ((ex.pick).toNat) Ex.zero).count,bf],fx] Z Z NC Ac (IH1 (ex.num).toNat oM dd119 _ l3 g vp dp ip (fr) (fs) p (l4) bf (((p.getD ((ex.num).toNat) Fn.zero).outs).getD ((ex.pick).toNat) Ex.zero) fx (f3) (fun b hb=>(a1.drew.lt b hb:b<fe.heap.size)) (a1.drew.sub _ hgS) ⟨_,_,_,aj,av⟩ (RN.stp (Am<|AC dp) hp a8.drew a1.drew.new) _hip oM oM I6 ⟨bg.rng,RN.stp (Am<|AL dd119) bg.rn a8.drew a1.drew.new⟩ am bc hvp oM (by have h9:=hvp.wf (ex.num).toNat oM (ex.pick).toNat oM;rw[show(f3.length:Int)=(p.getD (ex.num).toNat Fn.zero).params from by omega];exact h9) oM hKb) ?_
  rintro nh ll ⟨lm,m4,m5,m6,m7,rfl,a2,⟨mq,vg120,vv120,em,en⟩,c2,cw,cx,cy⟩
  refine⟨_,rfl,?_⟩
  replace a2:=a2.of_drew
  have io:fe.heap.size≤ll.heap.size:=a2.chg.size
  have k1:Az S w ll:=a8.stp a2.chg a1.new
  have k2:=ae.chg a2.chg fun hm=>ab hm
  have g6:w.heap.size∉m4:=fun hm=>(a2.new _ hm).elim (fun hm=>ab hm) (fun h9=>by omega)
  have k3:=RN.stp g1 am a2.chg a2.new
  have eo:=a1.trans a2
  have iq:=c2.bnd
  have ir:=c2.num
  have hRv:=cw
  have hL2:=cy
  refine Ae 1 Z<|A3<|AK<|Ap ?_
  exact Ah [6] Z (zI lm) Z ⟨lm,_,m5,m6,m7,rfl,eo,⟨_,_,_,em,en⟩,⟨Fh,oM⟩,Ff,cx,Fe⟩
 refine Av false Z Z (A8 bx) Ac<|Ae 1 Z<|Aj Z<|qS [0,0] Z ?_
 by_cases c3:ex.kind=((11:Nat):Int)
 ·refine Av true Z Z (A7 c3) Ac<|Ae 1 Z<|Ag Z<|A0<|qS [0] Z ?_
  have hwk:=Mn hwf oM
  have hwl:=Tf hwf oM
  refine Ae 1 Z<|A5 ?_
  have hMs:=av
  have hGs:=a1
  have hns:w.heap.size∉l3:=fun hm=>ab hm
  refine AQ (S:=Nat×Value×Sr×List Nat×Tp×Nat×Int×Value×Value×Value) (fun⟨i,vk,ks,S9,T9,s9,c9,lo,vg9,vv9⟩=>([(9,vk),(10,zI (i:Int)),(0,zP g),(4,zP w.heap.size)])) (fun⟨i,vk,ks,S9,T9,s9,c9,lo,vg9,vv9⟩ W=>Az S w W∧BX W.heap g [vp,zI ip,lo,vg9,zN,vv9,zI (s9:Int),zI c9]∧BX W.heap w.heap.size [zI ex.kind,zI ex.num,zI ex.pick,zI ex.count,ve]∧i≤(ex.count).toNat∧w.heap.size∉S9∧GH S S9 w W∧CT 69 208 2 S9 g W.heap lo vg9 vv9 T9∧cI T T9 s0 s9 c9∧RN S9 (B3 rI) W.heap vk ks∧Cj vk∧ks.length=(p.getD (ex.num).toNat Fn.zero).outs.length∧(c9=0→Lu T9 ks)∧AX (JZ (fun a t U=>J5 (M4 p (ex.num).toNat) (p.getD (ex.num).toNat Fn.zero).outs a t U) i f3 fr l4) (ks,T9) s9 c9) (fun⟨i,vk,ks,S9,T9,s9,c9,lo,vg9,vv9⟩=>(ex.count).toNat-i) (0,fx,f3,l3,l4,fr,fs,lk,vg109,vv109) ⟨rfl,rfl,rfl,rfl,trivial⟩ ⟨a8,aj,ae,oM,hns,hGs,hMs,(by exact⟨by assumption,zO⟩),(by assumption),(by assumption),oM,hKb,(by exact⟨rfl,rfl,zO⟩)⟩ ?_
  clear j4 j5 hG0 ka d3 ga gb g2 g3 gd b0 a4 b1 a0 d5 ac av ct a8 ae a1
  rintro⟨i,vk,ks,S9,T9,s9,c9,lo,vg9,vv9⟩ ρ131 l5 ⟨ak,a5,a6,g7,hnb,hGl,hMl,hPl,hrk,hck,hkl,hkb,hrl9⟩
  have is:w.heap.size≤l5.heap.size:=ak.size
  have k4:=a5.lt
  have k5:=a6.lt
  have hnl:=hPl.num
  have hbl:=hPl.bnd
  refine A0<|qS [0,0,2,0,0,0,0,0,2,0,0] Z<|Af 1 Z<|Aq (p:=zP w.heap.size) 3 Ee Z Z Ac<|Al (p:=AA (zP w.heap.size) 3) (.inr Z) (zI ex.count) AO Z (a6.ldp (i:=3) sM) Ac ?_
  by_cases c4:(i:Int)<ex.count
  ·refine Ay true Z Z (A7 c4) Ac<|Af 2 Z<|Be Z (Ak (e:=156) Z Z Z)<|Aq (p:=zP g) 7 Gc Z Z (Ak (e:=156) Z Z Z)<|Al (p:=AA (zP g) 7) (.inr Z) (zI c9) AO Z (a5.ldp (i:=7) sM) (Ak (e:=156) Z Z Z) ?_
   by_cases c5:c9=((0:Nat):Int)
   ·refine Av true Z Z (A7 c5) (Ak (e:=156) Z Z Z)<|Ae 1 Z<|Ag Z<|A4<|A0<|A5<|AW _ [0,0,0,0,0,1,0,1,0,0,1,0,4,0] mixed (by kernel_rfl)<|Af 2 Z ?_
    have hvo:=hvp.outs (ex.num).toNat oM
    refine Be Z Ac<|Aq (p:=zP g) 0 U9 Z Z Ac<|Aq (p:=AA (zP g) 0) (b:=g) (o:=0) 0 BQ Z Z Ac<|Al (p:=AA (AA (zP g) 0) 0) (.inl Z) vp Cr Z (a5.ldp (i:=0) sM) Ac<|Aq (p:=zP w.heap.size) 1 Co Z Z Ac<|Al (p:=AA (zP w.heap.size) 1) (.inl Z) (zI ex.num) AO Z (a6.ldp (i:=1) sM) Ac ?_
    refine Aw (v:=vp) ((ex.num).toNat) H6 CM Z Z hp.isSl oM sD Ac ?_
    obtain⟨cs136,ep,c6⟩:=hp.get (AC dp) Fn.zero (k:=(ex.num).toNat) sD
    obtain⟨bh,rfl,c7⟩:=RF.of ep
    have cz:=c7.rn.lenle
    unfold maxLen at cz
    refine AP (p:=Ax vp ((ex.num).toNat) 3) 2 Cn Z (c6 _ ak.drew) Ac<|Al (p:=AA (Ax vp ((ex.num).toNat) 3) 2) (.inl Z) bh BA Z ((c6 _ ak.drew).ld (i:=2) (by simp[Dd,FU])) Ac<|Af 1 Z ?_
    refine AE 102 [] [] [zP g,bh,vk] Z Z Ym Ac (Sy (ex.num).toNat dp (fun d9 h9=>IH1 (ex.num).toNat oM d9) _ S9 g vp dp ip (s9) (c9) p (T9) bh ((p.getD ((ex.num).toNat) Fn.zero).outs) vk (ks) (fun b hb=>(hGl.drew.lt b hb:b<l5.heap.size)) (hGl.drew.sub _ hgS) ⟨_,_,_,a5,hMl⟩ (RN.stp (Am<|AC dp) hp ak.drew hGl.drew.new) _hip oM oM I6 (RN.stp (Am<|AL dp) c7.rn ak.drew hGl.drew.new) hrk hck hvp oM (by intro k hk;have h9:=hvp.wf (ex.num).toNat oM k hk;rw[show(ks.length:Int)=(p.getD (ex.num).toNat Fn.zero).params from by omega];exact h9) (by intro k hk;have:=hvp.deep (ex.num).toNat oM k hk;omega) oM hkb) ?_
    rintro ni lp ⟨m8,lq,la,lr,ls,lu,rfl,a3,⟨lv,vg137,vv137,eq,er⟩,c8,es,it,iu,iv,iw⟩
    refine⟨_,rfl,?_⟩
    replace a3:=a3.of_drew
    have ix:l5.heap.size≤lp.heap.size:=a3.chg.size
    have et:Az S w lp:=ak.stp a3.chg hGl.new
    have eu:=a6.chg a3.chg fun hm=>hnb hm
    have bs:w.heap.size∉la:=fun hm=>(a3.new _ hm).elim (fun hm=>hnb hm) (fun h9=>by omega)
    have k6:=RN.stp g1 hrk a3.chg a3.new
    have ev:=hGl.trans a3
    have iy:=c8.bnd
    have iz:=c8.num
    have j0:=es.rn
    refine Ae 1 Z<|Ad _ [0,0,0] Z<|Af 1 Z<|AG ((i+1:Nat):Int) Z Z (Bd oM oM) Ac<|Ae 1 Z ?_
    have hMe:=er
    have hGe:=ev
    have hPe:cI T lr s0 ls lu:=⟨by assumption,zO⟩
    have hne:w.heap.size∉la:=fun hm=>bs hm
    exact⟨(i+1,m8,lq,la,lr,ls,lu,lv,vg137,vv137),_,rfl,zR,⟨et,eq,eu,oM,hne,hGe,hMe,hPe,(by assumption),(by assumption),oM,(by assumption),(by exact fY hrl9 oM (by assumption))⟩,zD⟩
   refine Av false Z Z (A8 c5) (Ak (e:=156) Z Z Z)<|Ae 1 Z<|Aj Z<|A6<|Au<|Au<|An<|qS [0,0,2,0,2,0] Z ?_
   have hkb9:=fun h9:c9=0=>hkb h9 (ex.pick).toNat oM
   refine Af 1 Z<|Aq (p:=zP w.heap.size) 2 EK Z Z Ac<|Al (p:=AA (zP w.heap.size) 2) (.inr Z) (zI ex.pick) AO Z (a6.ldp (i:=2) sM) Ac<|Aw (v:=vk) ((ex.pick).toNat) Bm BM Z Z hrk.slL oM oM Ac ?_
   have ca:=RN.getI (w:=l5) (k:=(ex.pick).toNat) hrk oM
   refine Al (p:=Ax vk ((ex.pick).toNat) 1) (.inr Z) (zI<|ks.getD ((ex.pick).toNat) 0) AO Z (ca.1 _<|Az.refl _ _) Ac<|Ae 1 Z<|A3<|AK<|Ap ?_
   exact Ah [6] Z (zI<|ks.getD ((ex.pick).toNat) 0) Z ⟨ks.getD ((ex.pick).toNat) 0,_,T9,s9,c9,rfl,hGl,⟨_,_,_,a5,hMl⟩,⟨Fh,oM⟩,Ff,ca.2,Fe⟩
  refine Ay false Z Z (A8 c4) Ac<|Ae 7 Z<|Aj Z<|A6<|Au<|Au<|An<|qS [0,0,2,0,2,0] Z ?_
  have hkb9:=fun h9:c9=0=>hkb h9 (ex.pick).toNat oM
  refine Af 1 Z<|Aq (p:=zP w.heap.size) 2 EK Z Z Ac<|Al (p:=AA (zP w.heap.size) 2) (.inr Z) (zI ex.pick) AO Z (a6.ldp (i:=2) sM) Ac<|Aw (v:=vk) ((ex.pick).toNat) Bm BM Z Z hrk.slL oM oM Ac ?_
  have cb:=RN.getI (w:=l5) (k:=(ex.pick).toNat) hrk oM
  refine Al (p:=Ax vk ((ex.pick).toNat) 1) (.inr Z) (zI<|ks.getD ((ex.pick).toNat) 0) AO Z (cb.1 _<|Az.refl _ _) Ac<|Ae 1 Z<|A3<|AK<|Ap ?_
  exact Ah [6] Z (zI<|ks.getD ((ex.pick).toNat) 0) Z ⟨ks.getD ((ex.pick).toNat) 0,_,T9,s9,c9,rfl,hGl,⟨_,_,_,a5,hMl⟩,⟨Fh,oM⟩,Ff,cb.2,Fe⟩
 refine Av false Z Z (A8 c3) Ac<|Ae 1 Z<|Aj Z<|A4<|qS [0,0,2,0,0,0,4,0] Z ?_
 have hkb9:=hKb oM
 have l2:3≤ex.kind∧ex.kind≤7:=by have:=(DB (Dj hwf)).1;omega
 have hkl:1≤ex.kids.length∧(ex.kind≠7→2≤ex.kids.length):=by by_cases h7:ex.kind=7;(have:=VX hwf h7;omega);(have:=VY hwf oM;omega)
 refine Af 1 Z<|Aq (p:=zP w.heap.size) 0 Bz Z Z Ac<|Al (p:=AA (zP w.heap.size) 0) (.inr Z) (zI ex.kind) AO Z (ae.ldp (i:=0) sM) Ac<|Cb (ex.kind-((3:Nat):Int)) Z Z (Dh oM oM) Ac<|AG ex.kind Z Z (nY oM oM oM) Ac<|Af 1 Z ?_
 refine AE 229 [] [] [zP g,zI ex.kind,fx] Z Z mF Ac (GM _ l3 g vp dp ip (fr) (fs) p (l4) (ex.kind) fx (f3) (fun b hb=>(a1.lt b hb:b<fe.heap.size)) (a1.sub _ hgS) ⟨_,_,_,aj,av⟩ (RN.stp (Am<|AC dp) hp a8 a1.new) _hip oM oM I6 oM am bc oM oM hkb9 oM) ?_
 rintro nj lw ⟨lx,m9,ma,mb,rfl,a9,⟨mr,vg148,vv148,ew,ey⟩,j1,j2,d0,d1,d2⟩
 refine⟨_,rfl,?_⟩
 have j3:fe.heap.size≤lw.heap.size:=a9.chg.size
 have k7:Az S w lw:=a8.stp a9.chg a1.new
 have k8:=ae.chg a9.chg fun hm=>ab hm
 have g8:w.heap.size∉m9:=fun hm=>(a9.new _ hm).elim (fun hm=>ab hm) (fun h9=>by omega)
 have k9:=RN.stp g1 am a9.chg a9.new
 have ez:=a1.trans a9
 have hRv:=d0
 have hL2:=d2
 refine Ae 1 Z<|A3 ?_
 exact Ah [6] Z (zI lx) Z ⟨lx,_,ma,fr,mb,rfl,ez,⟨_,_,_,ew,ey⟩,⟨Fh,oM⟩,Ff,d1,Fe⟩
theorem iV:∀F d,nI F d:=by
 intro F
 induction F using Nat.strongRecOn with
 |_ F ihF =>
  intro d
  induction d using Nat.strongRecOn with
  |_ d ihd =>
   intro w S g vp dp ip s0 c0 p T ve ex vv env hS hgS a0 hp hip a1 a2 hbd hex henv hqenv hvp hF hwf hdp hen
   exact Jp w S F g vp dp ip s0 c0 p T d ve ex vv env hS hgS a0 hp hip a1 a2 hbd hex henv hqenv hvp hF hwf hdp hen ihF ihd
theorem iW (F d:Nat):r9 F d:=Sy F d fun d' _=>iV F d'
theorem Ue {p:Prop}(h:p:=by have h9:=hm;rw[hSd]at h9;have:=Ab h9;omega):p:=h
theorem Z9 {p:Prop}(h:p:=by simp only[zc,zf,zh];rfl):p:=h
theorem Hb (w:World)(dp:Nat)(vp:Value)(p:List Fn)(f:Int)(va:Value)(a:Sr)(hp:RP [] dp w.heap vp p)(_hf:BI f)(ha:RN [] (B3 rI) w.heap va a)(hok:KE p=true)(hz:Px p)(hf:0≤f∧f<(p.length:Int))(hl:(a.length:Int)=(p.getD f.toNat Fn.zero).params)(hna:B9 a=true) :
  Calls Tryz.prog 29 #[(.agg #[vp]),zI f,va] w (fun e w'=>∃(i0:Int) (vc vg vo:Value) (xs:Sr) (T':Tp) (s1:Nat) (c1:Int),e=.returned (.tuple #[.agg #[zI i0,vc,vg,vo],zI c1])∧AB w w'∧AX (KI p f.toNat a) (xs,T') s1 c1∧(0≤c1∧c1≤9)∧(∀u∈[vc,vg,vo],u.cells=#[u]∧u.oneCell'=true)∧BI i0∧(c1=0→i0=(p.getD f.toNat Fn.zero).params∧LV T' s1∧s1≤3000∧xs.length=(p.getD f.toNat Fn.zero).outs.length∧Lu T' xs∧RG w.heap.size (EQ 4 RM) w'.heap vc T'.code∧RG w.heap.size (EQ 2 Tl) w'.heap vg T'.grd∧RG w.heap.size (B3 rI) w'.heap vo xs)):=by
 refine At [.agg #[vp],zI f,va] 87 Tryz.func29 Z Z sM ?_
 have dq:AB w w:=AB.refl w
 have g0:=hp.lenle
 unfold maxLen at g0
 have g4:=ha.lenL
 unfold maxLen at g4
 have g5:=Fu hok
 have gq:=g5.par f.toNat oM
 have gr:=g5.outs f.toNat oM
 have hi:Jz p f=0:=by unfold Jz;rw[if_pos hok,if_pos oM]
 refine qS [3,3,0] Z (C8 (cs:=#[vp]) Z Ac fun w1 cj e8 cf=>?_)
 have ck:=cj.size
 have dr:=dq.trans cj
 replace cf:BX w1.heap w.heap.size [vp]:=cf
 have ey:=cf.lt
 refine Br (z:=.agg #[zI 0,zN,zN,zN]) bK Ac fun w2 cg e9 cl=>?_
 have cm:=cg.size
 have cn:=dr.trans cg
 have aq:=cf.ext cg
 replace cl:BX w2.heap w1.heap.size [zI 0,zN,zN,zN]:=cl
 refine Ae 1 Z<|qS [2,0,3,0] Z<|AZ (p:=zP w.heap.size) (.inr Z) [vp] CL Z (fun gf ba=>LD.of_box<|BX.ext (w:=w2) aq ba) Z Ac<|Af 1 Z<|As 100 [] [] [.agg #[vp],zI f] Z Z dO Ac (JF _ dp vp (p) _ (hp.ext (Am<|AC dp) cn) _hf hz) ?_
 rintro e4 w4 ⟨rfl,b8⟩
 refine⟨_,rfl,b8,?_⟩
 have co:=b8.size
 have bb:=cn.trans b8
 have ar:=aq.ext b8
 have bc:=cl.ext b8
 refine Ae 1 Z<|A0<|qS [0,0,0,0,0,2,0,0,0,2,3,0,0] Z<|Af 1 Z ?_
 have ea:Jz p f=((0:Nat):Int):=hi
 refine Av true Z Z (A7 ea) Ac<|Af 2 Z<|Aq (p:=zP w.heap.size) 0 BQ Z Z (Ak (e:=18) Z Z Z)<|Al (p:=AA (zP w.heap.size) 0) (.inr Z) vp Cr Z (ar.ldp (i:=0) sM) (Ak (e:=18) Z Z Z)<|Af 1 Z<|Aw (v:=vp) ((f).toNat) H6 CM Z Z hp.isSl oM sD (Ak (e:=18) Z Z Z) ?_
 obtain⟨cs6,eb,ch⟩:=hp.get (AC dp) Fn.zero (k:=(f).toNat) sD
 obtain⟨ez,rfl,ds⟩:=RF.of eb
 have bd:=ds.rn.lenle
 unfold maxLen at bd
 refine AP (p:=Ax vp ((f).toNat) 3) 1 CG Z (ch _<|Az.of_ext [] bb) (Ak (e:=18) Z Z Z)<|Al (p:=AA (Ax vp ((f).toNat) 3) 1) (.inr Z) (zI<|(p.getD ((f).toNat) Fn.zero).params) AO Z ((ch _<|Az.of_ext [] bb).ld (i:=1) (by simp[Dd,FU])) (Ak (e:=18) Z Z Z)<|As 86 [] [] [va,zI<|(p.getD ((f).toNat) Fn.zero).params] Z Z iJ (Ak (e:=18) Z Z Z) (EL _ _ _ _ (ha.ext g1 bb).rd ds.rng) ?_
 rintro e7 w7 ⟨rfl,b9⟩
 refine⟨_,rfl,b9,?_⟩
 have cp:=b9.size
 have ci:=bb.trans b9
 have ae:=ar.ext b9
 have au:=bc.ext b9
 rw[show(decide ((a.length:Int)=((p.getD ((f).toNat) Fn.zero).params)) && B9 a)=true from(by rw[A7 oM,hna];rfl)]
 refine BH false Z Z (Ak (e:=18) Z Z Z)<|Ae 1 Z<|Aj Z<|A4<|A0<|qS [0,0] Z<|Af 1 Z ?_
 have ec:¬(Jz p f≠((0:Nat):Int)):=(fun h9=>h9 hi)
 refine B4 false Z Z (A8 ec) Ac<|Ai<|Aj Z<|A4<|A0<|AW _ [1,0,1,0,0,0,1,0,0,3,0] mixed (by kernel_rfl)<|AZ (p:=zP w.heap.size) (.inl Z) [vp] CL Z (fun gf ba=>LD.of_box<|BX.ext (w:=w7.drew) ae ba) Z Ac<|Aq (p:=zP w.heap.size) 0 BQ Z Z Ac<|Al (p:=AA (zP w.heap.size) 0) (.inl Z) vp Cr Z (ae.ldp (i:=0) sM) Ac<|Af 1 Z ?_
 refine Aw (v:=vp) ((f).toNat) H6 CM Z Z hp.isSl oM sD Ac<|AP (p:=Ax vp ((f).toNat) 3) 1 CG Z (ch _<|Az.of_ext [] ci.drew) Ac<|Al (p:=AA (Ax vp ((f).toNat) 3) 1) (.inl Z) (zI<|(p.getD ((f).toNat) Fn.zero).params) AO Z ((ch _<|Az.of_ext [] ci.drew).ld (i:=1) (by simp[Dd,FU])) Ac ?_
 have cq:∀(wq:World),(Instr.build 55 #[(0,zI ((p.getD ((f).toNat) Fn.zero).params))]).run Tryz.prog wq=.ok (.agg #[zI ((p.getD ((f).toNat) Fn.zero).params),zN,zN,zN]) wq:=by intro wq;kernel_rfl
 refine Ce (ps:=#[(0,zI<|(p.getD ((f).toNat) Fn.zero).params)]) (.agg #[zI<|(p.getD ((f).toNat) Fn.zero).params,zN,zN,zN]) Z9 (fun wq=>cq  wq) Ac ?_
 have be:∀(vp:Value) (f3:Nat) (h10_0:Er vp f3) (wq:World),(Instr.build 129 #[(0,.agg #[vp]),(1,.agg #[zI ((p.getD ((f).toNat) Fn.zero).params),zN,zN,zN])]).run Tryz.prog wq=.ok (.agg #[vp,zI ((p.getD ((f).toNat) Fn.zero).params),zN,zN,zN,zN,zI 0,zI 0]) wq:=by intro vp f3 h10_0 wq;obtain⟨a10_0,gg,rfl,_⟩:=h10_0;kernel_rfl
 refine Ce (ps:=#[(0,.agg #[vp]),(1,.agg #[zI<|(p.getD ((f).toNat) Fn.zero).params,zN,zN,zN])]) (.agg #[vp,zI<|(p.getD ((f).toNat) Fn.zero).params,zN,zN,zN,zN,zI 0,zI 0]) Z9 (fun wq=>be vp _ hp.isSl wq) Ac ?_
 have ed:=ae.lt
 have ee:=au.lt
 refine C8 (cs:=#[vp,zI<|(p.getD ((f).toNat) Fn.zero).params,zN,zN,zN,zN,zI 0,zI 0]) Z Ac fun f1 a9 cr ak=>?_
 replace a9:=a9.of_drew
 have bf:=a9.size
 have bg:=ci.trans a9
 have av:=ae.ext a9
 have aw:=au.ext a9
 replace ak:BX f1.heap w7.drew.heap.size [vp,zI ((p.getD ((f).toNat) Fn.zero).params),zN,zN,zN,zN,zI 0,zI 0]:=ak
 refine Ae 1 Z<|qS [3,0] Z ?_
 obtain⟨S,hSd⟩:∃S:List Nat,S=[w7.heap.size]:=⟨_,rfl⟩
 have hgS:w7.heap.size∈S:=by rw[hSd];exact List.mem_singleton.2 Z
 have hlr:w7.heap.size<f1.heap.size:=BX.lt ak
 have hMb:CT 69 208 2 S w7.heap.size f1.heap zN zN zN (KH a 0):=CT.nil
 have hGb:GH S S w f1:=⟨fun _ h=>h,fun b hb=>.inl hb,fun b hb=>by rw[hSd]at hb;have:=Ab hb;omega,Az.of_ext S bg⟩
 have hEb:Az S w f1:=hGb.chg
 have hSn:∀b∈S,w.heap.size≤b:=fun b hb=>by rw[hSd]at hb;have:=Ab hb;omega
 have hBb:BX f1.heap w7.heap.size [vp,zI ((p.getD f.toNat Fn.zero).params),zN,zN,zN,zN,zI ((0:Nat):Int),zI ((0:Nat):Int)]:=ak
 have ax:RN S (EQ 3 (cC dp)) w.heap vp p:=by rw[hSd];exact RN.add (Am (AC dp)) hp (fun b hb=>zH<|Ab hb)
 have ay:RN S (B3 rI) w.heap va a:=by rw[hSd];exact RN.add g1 ha (fun b hb=>zH<|Ab hb)
 refine BS (rI) AS Bm BM Ac fun gk gh a4 ct bh=>?_
 have bi:f1.heap.size≤gh.heap.size:=a4.size
 have bj:Az S w gh:=hEb.ext a4
 have az:=av.ext a4
 have b0:=aw.ext a4
 have b1:=hBb.ext a4
 have bk:=CT.ext hMb a4
 have bl:=hGb.ext a4
 refine Ae 1 Z<|A0<|qS [0,0,0] Z<|Af 1 Z<|AN (v:=va) Bm Z ay.slL Ac<|Ae 1 Z<|A5 ?_
 have hBO:w.heap.size≤f1.heap.size∧w7.heap.size<f1.heap.size:=by omega
 have bm:w.heap.size∉S:=fun hm=>Ue
 have bn:w1.heap.size∉S:=fun hm=>Ue
 obtain⟨Fo0,bo⟩:=Ow.of_fr bh (A9 _)
 have cu:∀b∈Fo0,b∉S:=fun b hb hm=>by have:=bo.low b hb;have:=hGb.lt b hm;omega
 have hMs:=bk
 have hGs:=bl
 have hnswheaps:w.heap.size∉S:=fun hm=>Ue
 have hnsw1heap:w1.heap.size∉S:=fun hm=>Ue
 refine AQ (S:=Nat×Value×Sr×List Nat×List Nat×Value×Value×Value) (fun⟨k,vo,xs,Fo,S9,g6,vg9,vv9⟩=>([(10,vo),(46,zI (k:Int)),(1,zI f),(3,zP w.heap.size),(6,zP w1.heap.size),(9,zP w7.heap.size),(44,va),(45,zI (a.length:Int))])) (fun⟨k,vo,xs,Fo,S9,g6,vg9,vv9⟩ W=>Az S w W∧BX W.heap w.heap.size [vp]∧BX W.heap w1.heap.size [zI 0,zN,zN,zN]∧BX W.heap w7.heap.size [vp,zI (p.getD f.toNat Fn.zero).params,g6,vg9,zN,vv9,zI ((0:Nat):Int),zI ((0:Nat):Int)]∧k≤a.length∧f1.heap.size≤W.heap.size∧GH S S9 w W∧CT 69 208 2 S9 w7.heap.size W.heap g6 vg9 vv9 (KH a k)∧Ow (AY rI 2) f1.heap.size W.heap.size W.heap vo xs Fo∧(∀b∈Fo,b∉S9)∧xs=Ie k∧w.heap.size∉S9∧w1.heap.size∉S9) (fun⟨k,vo,xs,Fo,S9,g6,vg9,vv9⟩=>a.length-k) (0,gk,[],Fo0,S,zN,zN,zN) ⟨rfl,rfl,rfl,rfl,rfl,rfl,rfl,rfl,trivial⟩ ⟨bj,az,b0,b1,oM,oM,hGs,hMs,bo,cu,(by rfl),bm,bn⟩ ?_
 clear dq e8 cj ck dr e9 cg cm cn b8 co bb bd b9 cp ci cr a9 bf bg bh ct a4 bi bj bk bl
 rintro⟨k,vo,xs,Fo,S9,g6,vg9,vv9⟩ ρ21 g7 ⟨a5,a3,aa,ab,cv,hbw,hGl,hMl,hOl,hdl,hxe,af,ag⟩
 have dt:w.heap.size≤g7.heap.size:=a5.size
 have ef:=a3.lt
 have eg:=aa.lt
 have eh:=ab.lt
 refine qS [0] Z ?_
 by_cases bp:(k:Int)<(a.length:Int)
 ·refine Ay true Z Z (A7 bp) Ac<|Ai<|A0<|Ag Z<|A4<|A0<|A5<|qS [0,0,2,0,0] Z ?_
  have hak:=Bg hna k
  have hvk:=Lv a k
  have hxk:xs.length=k:=by rw[hxe,Hw]
  refine Af 1 Z<|Aw (v:=va) k Bm BM Z Z ay.slL Z sD Ac ?_
  have bq:=RN.getI (w:=w) (k:=k) ay sD
  refine Al (p:=Ax va k 1) (.inr Z) (zI<|a.getD k 0) AO Z (bq.1 _ a5) Ac<|Ae 2 Z<|Ad _ [0,0,0,0,0,4,3,4,0] Z<|Af 3 Z ?_
  have br:∀(wq:World),(Instr.build 69 #[(0,zI ((1:Nat):Int)),(3,zI (k:Int))]).run Tryz.prog wq=.ok (.agg #[zI ((1:Nat):Int),zI 0,zI 0,zI (k:Int)]) wq:=by intro wq;kernel_rfl
  refine Ce (ps:=#[(0,zI ((1:Nat):Int)),(3,zI (k:Int))]) (.agg #[zI ((1:Nat):Int),zI 0,zI 0,zI (k:Int)]) Z9 (fun wq=>br  wq) Ac<|Af 1 Z ?_
  refine AE 101 [] [] [zP w7.heap.size,.agg #[zI ((1:Nat):Int),zI (0:Int),zI (0:Int),zI (k:Int)],zI<|a.getD k 0] Z Z TY Ac (D5 _ S9 w7.heap.size vp ((p.getD f.toNat Fn.zero).params) (0) ((0:Nat):Int) (KH a k) (⟨((1:Nat):Int),(0:Int),(0:Int),(k:Int)⟩:AM) (a.getD k 0) (fun b hb=>(hGl.lt b hb:b<g7.heap.size)) (hGl.sub _ hgS) ⟨_,_,_,ab,hMl⟩ oM (by rw[PE,Lv];omega) ⟨(show BI ((1:Nat):Int)from by omega),(show BI (0:Int)from by omega),(show BI (0:Int)from by omega),(show BI (k:Int)from by omega)⟩ bq.2) ?_
  rintro gs fx ⟨f4,rfl,a0,gb,vg28,vv28,cw,cx⟩
  refine⟨_,rfl,?_⟩
  have du:g7.heap.size≤fx.heap.size:=a0.chg.size
  have cy:Az S w fx:=a5.stp a0.chg hGl.new
  have cz:=a3.chg a0.chg fun hm=>af hm
  have b2:w.heap.size∉f4:=fun hm=>(a0.new _ hm).elim (fun hm=>af hm) (fun h9=>by omega)
  have d0:=aa.chg a0.chg fun hm=>ag hm
  have b3:w1.heap.size∉f4:=fun hm=>(a0.new _ hm).elim (fun hm=>ag hm) (fun h9=>by omega)
  have d1:=hOl.keep (Bj AS) a0.chg fun b hb hm=>hdl b hm hb
  have ai:∀b∈Fo,b∉f4:=fun b hb hm=>(a0.new b hm).elim (hdl b hb) (fun h9=>zH<|hOl.high b hb)
  have d2:=hGl.trans a0
  have dv:((KH a k).put (⟨((1:Nat):Int),(0:Int),(0:Int),(k:Int)⟩:AM) (a.getD k 0)).vals.length=(KH a k).vals.length+1:=HU _ _ _
  have dw:((KH a k).put (⟨((1:Nat):Int),(0:Int),(0:Int),(k:Int)⟩:AM) (a.getD k 0)).grd.length=(KH a k).grd.length:=rfl
  refine (Bs (u:=zI (((KH a k).vals.length:Nat):Int)) (B:=fx.heap.size) AS Bm BM Z Z (Mf fx.heap.size fx.heap.size _ _ oM) (A9 _) Ac ?_)
  intro gl gc a6 ei d3
  have dx:fx.heap.size≤gc.heap.size:=a6.size
  have d4:Az S w gc:=cy.ext a6
  have al:=cz.ext a6
  have am:=d0.ext a6
  have an:=cw.ext a6
  have d5:=CT.ext cx a6
  have bs:=d2.ext a6
  have hO38k:=d1.ext (Bj AS) a6
  refine Nd (v:=vo) (a:=gl) Bm BM Z Z Z hO38k d3.rd1 oM sD (by unfold maxLen;first|omega|assumption|(simp;done)|(simp;omega)) Ac fun gm gi gj ac ej d6=>?_
  have dy:gc.heap.size≤gi.heap.size:=ac.size
  have d7:Az S w gi:=d4.fresh ac (fun c hc=>zH<|hO38k.low c hc)
  have ek:∀b∈gj,b∉f4:=fun b hb hm=>(d6 b hb).elim (fun h9=>ai b h9 hm) (fun h9=>zH<|bs.lt b hm)
  have d8:=CT.chgO d5 ac ai
  have d9:=bs.fresh ac fun c hc=>zH<|hO38k.low c hc
  have da:=al.chg ac fun hm=>zH<|hO38k.low _ hm
  have db:=am.chg ac fun hm=>zH<|hO38k.low _ hm
  have dc:=an.chg ac fun hm=>zH<|hO38k.low _ hm
  refine Ae 1 Z<|Ad _ [0,0] Z<|AG ((k+1:Nat):Int) Z Z (Bd oM oM) Ac<|Ae 1 Z ?_
  have hMe:=d8
  have hGe:=d9
  have bt:w.heap.size∉f4:=fun hm=>b2 hm
  have bu:w1.heap.size∉f4:=fun hm=>b3 hm
  exact⟨(k+1,gm,xs++[(((KH a k).vals.length:Nat):Int)],gj,f4,gb,vg28,vv28),_,rfl,zR,⟨d7,da,db,dc,oM,oM,hGe,hMe,(by assumption),(by assumption),(by rw[hxe,Lv];exact(RS k).symm),bt,bu⟩,zD⟩
 refine Ay false Z Z (A8 bp) Ac<|Ai<|A0<|Aj Z<|A6<|Au<|Au<|An<|qS [0,0,0,2,0,0,0,2,0,4,0,0,0,4] Z ?_
 have hkl:k=a.length:=by omega
 refine Af 2 Z<|Aq (p:=zP w.heap.size) 0 BQ Z Z Ac<|Al (p:=AA (zP w.heap.size) 0) (.inr Z) vp Cr Z (a3.ldp (i:=0) sM) Ac<|Af 1 Z<|Aw (v:=vp) ((f).toNat) H6 CM Z Z ax.isSl oM sD Ac ?_
 obtain⟨cs46,dd,bv⟩:=ax.get (AC dp) Fn.zero (k:=(f).toNat) sD
 obtain⟨b4,rfl,bw⟩:=RF.of dd
 have bx:=bw.rn.lenle
 unfold maxLen at bx
 refine AP (p:=Ax vp ((f).toNat) 3) 2 Cn Z (bv _ a5) Ac<|Al (p:=AA (Ax vp ((f).toNat) 3) 2) (.inr Z) b4 BA Z ((bv _ a5).ld (i:=2) (by simp[Dd,FU])) Ac<|Af 1 Z ?_
 refine AE 102 [] [] [zP w7.heap.size,b4,vo] Z Z Ym Ac (iW f.toNat dp _ S9 w7.heap.size vp dp ((p.getD f.toNat Fn.zero).params) (0) ((0:Nat):Int) p (KH a k) b4 ((p.getD ((f).toNat) Fn.zero).outs) vo (xs) (fun b hb=>(hGl.lt b hb:b<g7.heap.size)) (hGl.sub _ hgS) ⟨_,_,_,ab,hMl⟩ (RN.stp (Am<|AC dp) ax a5 hGl.new) oM oM oM (by rw[hkl];exact jW hna oM) (RN.stp (Am<|AL dp) bw.rn a5 hGl.new) (RN.of_ow hOl hdl) hOl.fr.cap g5 oM (by intro j hj;have h9:=g5.wf f.toNat oM j hj;rw[hxe,Hw,hkl,hl];exact h9) (by intro j hj;have h9:=g5.deep f.toNat oM j hj;rw[hxe,Hw];omega) oM (by exact fun _=>by rw[hxe];exact jX a k)) ?_
 rintro gt g9 ⟨g8,gn,ga,gu,gp,fe,rfl,a1,⟨f2,vg47,vv47,de,df⟩,bz,c0,dz,c2,c3,c4⟩
 refine⟨_,rfl,?_⟩
 have e0:g7.heap.size≤g9.heap.size:=a1.chg.size
 have dg:Az S w g9:=a5.stp a1.chg hGl.new
 have dh:=a3.chg a1.chg fun hm=>af hm
 have di:w.heap.size∉ga:=fun hm=>(a1.new _ hm).elim (fun hm=>af hm) (fun h9=>by omega)
 have dj:=aa.chg a1.chg fun hm=>ag hm
 have aj:w1.heap.size∉ga:=fun hm=>(a1.new _ hm).elim (fun hm=>ag hm) (fun h9=>by omega)
 have b5:=hOl.keep (Bj AS) a1.chg fun b hb hm=>hdl b hm hb
 have dk:∀b∈Fo,b∉ga:=fun b hb hm=>(a1.new b hm).elim (hdl b hb) (fun h9=>zH<|hOl.high b hb)
 have c5:=hGl.trans a1
 have e1:=bz.bnd
 have e2:=bz.num
 have hKr:=c4
 have hKb:=c3
 have hKl:=c2
 rw[hxe,hkl]at hKr
 replace hKr:=AX.go0 hKr
 have c6:=c0.rn
 refine Be Z Ac<|Aq (p:=zP w7.heap.size) 1 GU Z Z Ac<|Aq (p:=AA (zP w7.heap.size) 1) (b:=w7.heap.size) (o:=1) 3 Gz Z Z Ac (BB (k:=4) (w:=g9) KS Z Z (Bo c6.slL) de sM Ac fun fs a7 el ad=>?_)
 replace ad:BX fs.heap w7.heap.size [vp,zI ((p.getD f.toNat Fn.zero).params),f2,vg47,g8,vv47,zI (gp:Int),zI fe]:=ad
 have c7:Az S w fs:=dg.trans (a7.sub (Bq hgS))
 have ao:=CT.chg df a7
 have c8:=c5.set hgS a7
 have e3:g9.heap.size≤fs.heap.size:=a7.size
 have c9:=dh.chg a7 (zB ·)
 have ca:=dj.chg a7 (zB ·)
 have ah:=b5.keep (Bj AS) a7 fun b hb hm=>by have:=Ab hb;have:=b5.low _ hm;have:=b5.high _ hm;omega
 have hF63l:=c0.upd g1 a7 fun b hb=>by rw[Ab hb];exact .inl (c5.sub _ hgS)
 have dl:=hF63l.rn
 refine Ai<|A0<|qS [0,0,0,2,0] Z<|Af 1 Z<|Be Z Ac<|Aq (p:=zP w7.heap.size) 7 Gc Z Z Ac<|Al (p:=AA (zP w7.heap.size) 7) (.inr Z) (zI fe) AO Z (ad.ldp (i:=7) sM) Ac ?_
 by_cases cb:fe≠((0:Nat):Int)
 ·refine B4 true Z Z (A7 cb) Ac<|Ai<|Ag Z<|A0 ?_
  letI:JR:=UU [w1.heap.size]
  refine Jx.AW _ [0,0,0,0,1,3,0] mixed (by kernel_rfl)<|Jx.j1 ?_
  have cc:∀(wq:World),(Instr.build 55 #[]).run Tryz.prog wq=.ok (.agg #[zI 0,zN,zN,zN]) wq:=by intro wq;kernel_rfl
  refine Ce (ps:=#[]) (.agg #[zI 0,zN,zN,zN]) (by simp only[zc,zf,zh]) (fun wq=>cc  wq) Ac<|Ai<|Jx.f8 (zP w7.heap.size) Z Ac<|Jx.j1<|Be Z Ac<|Ai<|Jx.Aq (p:=zP w7.heap.size) 7 Gc Z Z Ac<|Jx.nQ (p:=AA (zP w7.heap.size) 7) (zI fe) AO Z (fun wj hj=>(BX.chg (w:=fs.drew) (F:=[w1.heap.size]) ad hj (zB ·)).ldp (i:=7) sM) Ac<|Jx.qX ?_
  refine BR (vs:=[zI (0:Int),zN,zN,zN]) FK Z Z (by intro u hu;simp only[ze,z2,or_false]at hu;rcases hu with rfl|rfl|rfl|rfl <;> first|exact⟨rfl,rfl⟩) ca Z Z Ac fun gd a2 em b6=>?_
  replace a2:=a2.of_drew
  replace b6:BX gd.heap w1.heap.size [zI (0:Int),zN,zN,zN]:=b6
  have en:Az S w gd:=c7.fresh a2 (fun _ h=>zE h)
  have eo:=CT.chgO ao a2 fun b hb hm=>by rw[Ab hb]at hm;exact aj hm
  have dm:=c8.fresh a2 fun _ h=>zE h
  have e5:fs.heap.size≤gd.heap.size:=a2.size
  have ep:=c9.chg a2 (zB ·)
  have eq:=ad.chg a2 (zB ·)
  have er:=ah.keep (Bj AS) a2 fun b hb hm=>by have:=Ab hb;have:=ah.low _ hm;have:=ah.high _ hm;omega
  have hF73l:=hF63l.upd g1 a2 fun b hb=>by rw[Ab hb];(right;omega)
  have es:=hF73l.rn
  refine Ai ⟨Az.drewL a2,?_⟩
  exact Jx.V3 (zI fe) Z Ac<|Jx.Ai<|A3<|Ap<|Lr (t0:=7) (ts:=[]) (cs:=[zI (0:Int),zN,zN,zN]) [zI fe] Z FK Z b6 Z Z ⟨_,_,_,_,_,_,_,_,rfl,Az.toExt dm.chg hSn,hKr,oM,(by intro u hu;simp only[ze,z2,or_false]at hu;rcases hu with rfl|rfl|rfl <;> exact⟨rfl,rfl⟩),(by show BI _;unfold BI;omega),(fun h9=>absurd h9 oM)⟩
 refine B4 false Z Z (A8 cb) Ac<|Ai<|Aj Z<|A4<|qS [0,0,0,2,4,0] Z<|Af 1 Z<|Be Z Ac<|Aq (p:=zP w7.heap.size) 1 GU Z Z Ac<|AZ (p:=AA (zP w7.heap.size) 1) (.inr Z) [zI<|(p.getD f.toNat Fn.zero).params,f2,vg47,g8] FK Z (fun gf ba=>LD.part (BX.ext (w:=fs) ad ba) (by show(5:Nat)≤8;decide) (by intro i hi;match i,hi with|0,_=>rfl|1,_=>rfl|2,_=>rfl|3,_=>rfl)) Z Ac ?_
 refine BR (vs:=[zI<|(p.getD f.toNat Fn.zero).params,f2,vg47,g8]) FK Z Z (by intro u hu;simp only[ze,z2,or_false]at hu;rcases hu with rfl|rfl|rfl|rfl <;> first|exact⟨rfl,rfl⟩|exact Bo (CT.slc ao)|exact Bo (CT.slg ao)|exact Bo dl.slL) ca Z Z Ac fun ge a8 et b7=>?_
 replace b7:BX ge.heap w1.heap.size [zI ((p.getD f.toNat Fn.zero).params),f2,vg47,g8]:=b7
 have eu:Az S w ge:=c7.fresh a8 (fun _ h=>zE h)
 have ap:=CT.chgO ao a8 fun b hb hm=>by rw[Ab hb]at hm;exact aj hm
 have cd:=c8.fresh a8 fun _ h=>zE h
 have e6:fs.heap.size≤ge.heap.size:=a8.size
 have ev:=c9.chg a8 (zB ·)
 have ew:=ad.chg a8 (zB ·)
 have ex:=ah.keep (Bj AS) a8 fun b hb hm=>by have:=Ab hb;have:=ah.low _ hm;have:=ah.high _ hm;omega
 have hF81l:=hF63l.upd g1 a8 fun b hb=>by rw[Ab hb];(right;omega)
 have dn:=hF81l.rn
 refine Ae 1 Z<|A3 ?_
 have ce:∀b∈ga,w.heap.size≤b:=fun b hb=>(cd.new b hb).elim (hSn b) id
 exact Lr (t0:=7) (ts:=[]) (cs:=[zI<|(p.getD f.toNat Fn.zero).params,f2,vg47,g8]) [zI ((0:Nat):Int)] Z FK Z b7 Z Z ⟨_,_,_,_,_,_,_,_,rfl,Az.toExt cd.chg hSn,(by have h9:=hKr;rwa [show fe=((0:Nat):Int)from by omega]at h9),oM,(by intro u hu;simp only[ze,z2,or_false]at hu;rcases hu with rfl|rfl|rfl;exact Bo (CT.slc ap);exact Bo (CT.slg ap);exact RN.one1 g1 dn),(by show BI _;unfold BI;omega),(fun _=>⟨rfl,by assumption,zO,hKl,hKb oM,(CT.readsG ap ce).1,(CT.readsG ap ce).2,UG.rg hF81l oM⟩)⟩
theorem HD (w:World)(n:Int)(vo:Nat)(ord:Int)(_hn:BI n)(hcord:Fj w.heap (zP vo)=some (zI ord))(_hord:BI ord)(ho:0≤ord∧ord≤12) :
  Calls Tryz.prog 186 #[zI n,zP vo] w (fun e w'=>∃v0:Value,e=.returned (v0)∧AB w w'∧Fr (AY rI 2) w.heap.size w'.heap.size w'.heap v0 (cst (ord.toNat+1) n)):=by
 refine At [zI n,zP vo] 12 Tryz.func186 Z Z sM ?_
 have a0:AB w w:=AB.refl w
 refine qT Z<|qS [2,0,3,0] Z<|Al (.inr Z) (zI ord) M6 Z (AR a0 hcord) Ac<|AG ((ord.toNat+1:Nat):Int) Z Z (Bd oM oM) Ac (FM (n:=ord.toNat+1) Bm BM Z Z Z sD Ac fun v1 w1 a1 aa a2=>?_)
 have a5:=a1.size
 have a3:=a0.trans a1
 refine Ae 1 Z<|qS [0,0,0,4] Z<|Af 2 Z<|Aw (v:=v1) 0 Bm BM Z Z a2.isSl Z sM Ac (EV (v:=v1) (w:=w1) I0 Z Z _hn a2 sM Ac fun w2 F2 a4 ab a6 a7=>?_)
 have a8:AB w w2:=a4.below a3 (fun c hc=>Aa (A9 _) (a6 c hc).1) a3.size
 have a9:w1.heap.size≤w2.heap.size:=a4.size
 exact Ai<|qS [0,0] Z<|Ae 2 Z<|A3<|Ah [3] Z v1 Z ⟨v1,rfl,a8,a7.up o1⟩
theorem Kf {p:Prop}(h:p:=by first|(rw[DW oM,PI oM];exact⟨_,_,by assumption⟩)|(rw[DW oM,Nl oM];exact⟨_,_,by assumption⟩)|(rw[DW oM,Nn oM];exact⟨_,_,by assumption⟩)|(rw[DW oM,No oM];exact⟨_,_,by assumption⟩)|(rw[DW oM,Np oM];exact⟨_,_,by assumption⟩)|(rw[DW oM,Nq oM];exact⟨_,_,by assumption⟩)|(rw[DW oM,Nr oM];exact⟨_,_,by assumption⟩)):p:=h
theorem Kg {p:Prop}(h:p:=by unfold maxLen;first|omega|assumption|(simp only[zb,z9,z4,z6,z5];omega)|(simp[zb,z9,z4,z6,z5];done)|(simp[zb,z9,z4,z6,z5];omega)):p:=h
theorem Kh {p:Prop}(h:p:=by first|exact aM hzk oM|exact aN hzk oM):p:=h
theorem Ki {p:Prop}(h:p:=by exact aL hR hsA (hform k hkl) hkl):p:=h
theorem Dz (w:World)(ipT:Int)(vtc vtg vtx:Value)(T:Tp)(oT:Sr)(va:Value)(A:List (Sr))(ord:Int)(_hipT:BI ipT)(htcT:RN [] (EQ 4 RM) w.heap vtc T.code)(htgT:RN [] (EQ 2 Tl) w.heap vtg T.grd)(htoT:RN [] (B3 rI) w.heap vtx oT)(hA:RN [] (B3 (B3 rI)) w.heap va A)(hqA:Cj va)(_hord:BI ord)(ho:0≤ord∧ord≤12)(hsA:BC (ord.toNat+1) A)(hform:∀k,k<T.code.length→Hd A.length k (T.code.getD k AM.zero))(hlt:T.code.length≤4000) :
  Calls Tryz.prog 109 #[(.agg #[(zI ipT),vtc,vtg,vtx]),va,zI ord] w (fun e w'=>∃(v0:Value) (c1:Int),e=.returned (.tuple #[v0,zI c1])∧AB w w'∧aO (ord.toNat+1) A T.code c1∧(c1=0→RN [] (B3 (B3 rI)) w'.heap v0 (Bh (ord.toNat+1) A T.code)∧Cj v0)):=by
 refine At [.agg #[zI ipT,vtc,vtg,vtx],va,zI ord] 109 Tryz.func109 Z Z sM ?_
 have gp:AB w w:=AB.refl w
 have hl_vtx:=htoT.lenL
 unfold maxLen at hl_vtx
 have f2:=hA.lenL
 unfold maxLen at f2
 have hS:∀b∈([]:List Nat),b<w.heap.size:=fun b hb=>by cases hb
 refine qS [3,3,0,0] Z (C8 (cs:=#[zI ipT,vtc,vtg,vtx]) Z Ac fun w1 dx im dt=>?_)
 have dy:=dx.size
 have gq:=gp.trans dx
 replace dt:BX w1.heap w.heap.size [zI ipT,vtc,vtg,vtx]:=dt
 have jr:=dt.lt
 refine gI (u:=zI ord) Z Z Ac fun w2 du io dv=>?_
 have dz:=du.size
 have gr:=gq.trans du
 have bg:=dt.ext du
 replace dv:BX w2.heap w1.heap.size [zI ord]:=dv
 refine Ae 2 Z<|qS [3,0] Z ?_
 obtain⟨BO,hBO⟩:∃b:Nat,b=w2.heap.size:=⟨_,rfl⟩
 have hwB:w.heap.size≤BO:=by omega
 have js:w.heap.size<BO:=by have:=BX.lt bg;omega
 have jt:w1.heap.size<BO:=by have:=BX.lt dv;omega
 refine BS rV Bc Bn AU Ac fun v4 w4 ch ip e0=>?_
 have e1:=ch.size
 have gs:=gr.trans ch
 have ci:=bg.ext ch
 have cj:=dv.ext ch
 obtain⟨ju,F4,jv⟩:=Ic.nil (S:=[]) (by rw[← hBO]at e0;exact e0)
 refine Ae 1 Z<|qS [0,0] Z<|P4 [] [zP w1.heap.size] Z Z Ac<|Ae 1 Z<|A0<|qS [0,2,0,0] Z<|Aq (p:=zP w.heap.size) 1 IN Z Z Ac<|Al (p:=AA (zP w.heap.size) 1) (.inr Z) vtc Re Z (ci.ldp (i:=1) sM) Ac<|AN (v:=vtc) YF Z htcT.isSl Ac<|Ae 1 Z<|A5 ?_
 refine AQ (S:=Nat×Value) (fun⟨k,vo⟩=>([(8,vo),(18,zI (k:Int)),(1,va),(9,.func (.func 186) #[] #[zP w1.heap.size]),(16,vtc),(17,zI (T.code.length:Int))])) (fun⟨k,vo⟩ W=>AB w W∧BX W.heap w1.heap.size [zI ord]∧k≤T.code.length∧w.heap.size≤BO∧BO≤W.heap.size∧Pa 27 [] BO W.heap vo (Bh (ord.toNat+1) A<|T.code.take k)∧Ob (ord.toNat+1) A T.code k∧BC (ord.toNat+1) (Bh (ord.toNat+1) A<|T.code.take k)) (fun⟨k,vo⟩=>T.code.length-k) (0,v4) ⟨rfl,rfl,rfl,rfl,rfl,rfl,trivial⟩ ⟨gs,cj,oM,oM,oM,(by exact⟨_,_,by assumption⟩),gJ,(by intro j hj;simp at hj)⟩ ?_
 clear gp im dx dy gq io du dz gr e0 ip ch e1 gs
 rintro⟨k,vo⟩ ρ7 w7 ⟨dw,au,gt,gu,gv,hbld,hzk,hR⟩
 have iq:w.heap.size≤w7.heap.size:=dw.size
 have hRl:(Bh (ord.toNat+1) A (T.code.take k)).length=k:=by rw[BV,List.length_take];omega
 have jw:=au.lt
 obtain⟨jx,F9,av⟩:=hbld
 have hFl:∀b∈F9,b<w7.heap.size:=av.lt
 refine qS [0] Z ?_
 by_cases ck:(k:Int)<(T.code.length:Int)
 ·refine Ay true Z Z (A7 ck) Ac<|Ai<|A0<|Ag Z<|A4<|A0<|A5<|qS [0,2,3,4] Z ?_
  have hkl:k<T.code.length:=by omega
  refine Aw (v:=vtc) k YF LY Z Z htcT.isSl Z sD Ac ?_
  obtain⟨cs11,e2,e3⟩:=htcT.get AT AM.zero (k:=k) sD
  obtain⟨rfl,e4⟩:=RZ e2
  refine AZ (p:=Ax vtc k 4) (.inr Z) [zI<|(T.code.getD k AM.zero).op,zI<|(T.code.getD k AM.zero).a,zI<|(T.code.getD k AM.zero).b,zI<|(T.code.getD k AM.zero).num] Ig Z (fun k6 ir=>e3 k6<|Az.of_ext []<|dw.trans ir) Z Ac ?_
  have is:=au.lt
  refine Br (z:=.agg #[zI 0,zI 0,zI 0,zI 0]) bL Ac fun jy ai it bn=>?_
  have gw:=ai.size
  have cl:=dw.trans ai
  have aw:=au.ext ai
  have iu:=av.ext ai
  replace bn:BX jy.heap w7.heap.size [zI 0,zI 0,zI 0,zI 0]:=bn
  refine BR (vs:=[zI<|(T.code.getD k AM.zero).op,zI<|(T.code.getD k AM.zero).a,zI<|(T.code.getD k AM.zero).b,zI<|(T.code.getD k AM.zero).num]) Ig Z Z (by intro u hu;simp only[ze,z2,or_false]at hu;rcases hu with rfl|rfl|rfl|rfl <;> first|exact⟨rfl,rfl⟩) bn Z Z Ac fun f3 ay iv az=>?_
  replace az:BX f3.heap w7.heap.size [zI ((T.code.getD k AM.zero).op),zI ((T.code.getD k AM.zero).a),zI ((T.code.getD k AM.zero).b),zI ((T.code.getD k AM.zero).num)]:=az
  have e5:AB w f3:=ay.below cl (fun _ h=>zE h) cl.size
  have gx:jy.heap.size≤f3.heap.size:=ay.size
  have cm:=aw.chg ay (zB ·)
  have e6:=av.ext<|ay.below ai (fun _ h=>zE h) ai.size
  refine Ai<|qS [0,0,2,3,0] Z<|Af 1 Z<|Aq (p:=zP w7.heap.size) 3 PW Z Z Ac<|Al (p:=AA (zP w7.heap.size) 3) (.inr Z) (zI<|(T.code.getD k AM.zero).num) AO Z (az.ldp (i:=3) sM) Ac<|As 186 [] [zP w1.heap.size] [zI<|(T.code.getD k AM.zero).num,zP w1.heap.size] Z Z lT Ac (HD _ _ (w1.heap.size) (ord) e4.2.2.2 (cm.ld (k:=0) sM) _hord oM) ?_
  rintro kt f1 ⟨bh,rfl,aj,ad⟩
  refine⟨_,rfl,aj,?_⟩
  have gy:=aj.size
  have a8:=e5.trans aj
  have a2:=cm.ext aj
  have a0:=az.ext aj
  have a1:=e6.ext aj
  refine Ae 1 Z<|A0<|qS [0,2] Z<|Aq (p:=zP w7.heap.size) 0 PV Z Z Ac<|Al (p:=AA (zP w7.heap.size) 0) (.inr Z) (zI<|(T.code.getD k AM.zero).op) AO Z (a0.ldp (i:=0) sM) Ac<|Ai<|A5<|qS [0,0] Z ?_
  by_cases cn:(T.code.getD k AM.zero).op=((1:Nat):Int)
  ·refine Av true Z Z (A7 cn) Ac<|Ae 1 Z<|Ag Z<|Ad _ [0,0,2,0,2,0] Z ?_
   have hio:=(hform k hkl).i1 oM
   refine Af 1 Z<|Aq (p:=zP w7.heap.size) 3 PW Z Z Ac<|Al (p:=AA (zP w7.heap.size) 3) (.inr Z) (zI<|(T.code.getD k AM.zero).num) AO Z (a0.ldp (i:=3) sM) Ac<|Aw (v:=va) (((T.code.getD k AM.zero).num).toNat) Bn AU Z Z hA.slL oM sD Ac ?_
   obtain⟨bo,e7,bp⟩:=RN.getL (w:=w) g1 [] (k:=((T.code.getD k AM.zero).num).toNat) hA sD
   have co:=bp.lenL
   unfold maxLen at co
   refine Al (p:=Ax va (((T.code.getD k AM.zero).num).toNat) 1) (.inr Z) bo B7 Z (e7 _<|Az.of_ext [] a8) Ac<|Ae 1 Z<|Ad _ [0,0,3,4,0] Z<|Af 2 Z (Bs (u:=bo) (B:=f1.heap.size) Bc Bn AU Z Z (LR f1.heap.size f1.heap.size _<|bp.one1 g1) (A9 _) Ac fun k7 k8 b0 iw e8=>?_)
   have gz:=b0.size
   have bq:=a8.trans b0
   have b1:=a2.ext b0
   have b2:=a1.ext b0
   refine Ei (v:=vo) (a:=k7) (u:=bo) Bn AU Z Z Z b2 oM e8 (RN.stp g1 bp (Az.of_ext [] bq) fun b hb=>.inr (zH<|b2.low b (by simpa using hb))) sD Kg Ac ?_
   rintro k9 jz G24 br cp ⟨ix,ku,iy⟩
   have i0:k8.heap.size≤jz.heap.size:=br.size
   have e9:AB w jz:=br.below bq (fun c hc=>Aa hwB (b2.low c (cp c hc))) bq.size
   have ea:=b1.chg br fun hm=>zH<|b2.low _ (cp _ hm)
   refine Ae 1 Z<|Ad _ [0,0] Z<|AG ((k+1:Nat):Int) Z Z (Bd oM sD) Ac<|Ae 1 Z ?_
   exact⟨(k+1,k9),_,rfl,zR,⟨e9,ea,oM,oM,oM,Kf,Kh,Ki⟩,zD⟩
  refine Av false Z Z (A8 cn) Ac<|Ae 1 Z<|Aj Z<|qS [0,0] Z ?_
  by_cases cq:(T.code.getD k AM.zero).op=((3:Nat):Int)
  ·refine Av true Z Z (A7 cq) Ac<|Ae 1 Z<|Ag Z<|AW _ [0,0,1,0,1,0,0,1,0,1,3,0] mixed (by kernel_rfl) ?_
   have hio:=(hform k hkl).i2 oM
   have hra:=hR (T.code.getD k AM.zero).a.toNat oM
   have hrb:=hR (T.code.getD k AM.zero).b.toNat oM
   have b3:=hra.1
   have bs:=hrb.1
   refine Af 1 Z<|Aq (p:=zP w7.heap.size) 1 Fd Z Z Ac<|Al (p:=AA (zP w7.heap.size) 1) (.inl Z) (zI<|(T.code.getD k AM.zero).a) AO Z (a0.ldp (i:=1) sM) Ac<|Aw (v:=vo) (((T.code.getD k AM.zero).a).toNat) Bn AU Z Z (a1.done fun b hb=>absurd hb z2).slL oM sD Ac ?_
   obtain⟨cr,eb,bt⟩:=RN.getL (w:=f1) g1 [] (k:=((T.code.getD k AM.zero).a).toNat) (a1.done (fun b hb=>absurd hb z2)) sD
   have ct:=bt.lenL
   unfold maxLen at ct
   refine Al (p:=Ax vo (((T.code.getD k AM.zero).a).toNat) 1) (.inl Z) cr B7 Z (eb _ (Az.refl _ _).drew) Ac<|Af 1 Z<|Aq (p:=zP w7.heap.size) 2 EJ Z Z Ac<|Al (p:=AA (zP w7.heap.size) 2) (.inl Z) (zI<|(T.code.getD k AM.zero).b) AO Z (a0.ldp (i:=2) sM) Ac ?_
   refine Aw (v:=vo) (((T.code.getD k AM.zero).b).toNat) Bn AU Z Z (a1.done fun b hb=>absurd hb z2).slL oM sD Ac ?_
   obtain⟨cu,ec,bu⟩:=RN.getL (w:=f1) g1 [] (k:=((T.code.getD k AM.zero).b).toNat) (a1.done (fun b hb=>absurd hb z2)) sD
   have cv:=bu.lenL
   unfold maxLen at cv
   refine Al (p:=Ax vo (((T.code.getD k AM.zero).b).toNat) 1) (.inl Z) cu B7 Z (ec _ (Az.refl _ _).drew) Ac<|As 185 [] [] [cr,cu] Z Z U2 Ac (Ge _ _ _ _ _ (bt).rd (bu).rd oM oM hra.2 hrb.2) ?_
   rintro kv f4 ⟨bi,rfl,a9,a3⟩
   refine⟨_,rfl,a9,?_⟩
   replace a9:=a9.of_drew
   have i3:=a9.size
   have ed:=a8.trans a9
   have b4:=a2.ext a9
   have ee:=a1.ext a9
   have ef:=bt.ext g1 a9
   have eg:=bu.ext g1 a9
   replace a3:=a3.low (B':=f1.heap.size)<|A9 _
   refine Ae 1 Z<|Ad _ [0,0,3,4,0] Z<|Af 2 Z (Bs (u:=bi) (B:=f4.heap.size) Bc Bn AU Z Z (LR f4.heap.size f4.heap.size _<|⟨(Bl a3.isSl).1,(Bl a3.isSl).2⟩) (A9 _) Ac fun ka kb ae iz eh=>?_)
   have i4:=ae.size
   have cw:=ed.trans ae
   have b5:=b4.ext ae
   have ak:=a3.ext (o1) ae
   have bv:=ee.ext ae
   have j0:=ef.ext g1 ae
   have j1:=eg.ext g1 ae
   refine Ei (v:=vo) (a:=ka) (u:=bi) Bn AU Z Z Z bv oM eh (RN.of_fr1 ak fun b hb=>zH<|hFl b (by simpa using hb)) sD Kg Ac ?_
   rintro kc k0 G37 bw cx ⟨j2,kw,j3⟩
   have i5:kb.heap.size≤k0.heap.size:=bw.size
   have ei:AB w k0:=bw.below cw (fun c hc=>Aa hwB (bv.low c (cx c hc))) cw.size
   have ej:=b5.chg bw fun hm=>zH<|bv.low _ (cx _ hm)
   refine Ae 1 Z<|Ad _ [0,0] Z<|AG ((k+1:Nat):Int) Z Z (Bd oM sD) Ac<|Ae 1 Z ?_
   exact⟨(k+1,kc),_,rfl,zR,⟨ei,ej,oM,oM,oM,Kf,Kh,Ki⟩,zD⟩
  refine Av false Z Z (A8 cq) Ac<|Ae 1 Z<|Aj Z<|qS [0,0] Z ?_
  by_cases cy:(T.code.getD k AM.zero).op=((4:Nat):Int)
  ·refine Av true Z Z (A7 cy) Ac<|Ae 1 Z<|Ag Z<|AW _ [0,0,1,0,1,0,0,1,0,1,3,0] mixed (by kernel_rfl) ?_
   have hio:=(hform k hkl).i2 oM
   have hra:=hR (T.code.getD k AM.zero).a.toNat oM
   have hrb:=hR (T.code.getD k AM.zero).b.toNat oM
   have b3:=hra.1
   have bs:=hrb.1
   refine Af 1 Z<|Aq (p:=zP w7.heap.size) 1 Fd Z Z Ac<|Al (p:=AA (zP w7.heap.size) 1) (.inl Z) (zI<|(T.code.getD k AM.zero).a) AO Z (a0.ldp (i:=1) sM) Ac<|Aw (v:=vo) (((T.code.getD k AM.zero).a).toNat) Bn AU Z Z (a1.done fun b hb=>absurd hb z2).slL oM sD Ac ?_
   obtain⟨cz,ek,bx⟩:=RN.getL (w:=f1) g1 [] (k:=((T.code.getD k AM.zero).a).toNat) (a1.done (fun b hb=>absurd hb z2)) sD
   have d0:=bx.lenL
   unfold maxLen at d0
   refine Al (p:=Ax vo (((T.code.getD k AM.zero).a).toNat) 1) (.inl Z) cz B7 Z (ek _ (Az.refl _ _).drew) Ac<|Af 1 Z<|Aq (p:=zP w7.heap.size) 2 EJ Z Z Ac<|Al (p:=AA (zP w7.heap.size) 2) (.inl Z) (zI<|(T.code.getD k AM.zero).b) AO Z (a0.ldp (i:=2) sM) Ac ?_
   refine Aw (v:=vo) (((T.code.getD k AM.zero).b).toNat) Bn AU Z Z (a1.done fun b hb=>absurd hb z2).slL oM sD Ac ?_
   obtain⟨d1,el,bz⟩:=RN.getL (w:=f1) g1 [] (k:=((T.code.getD k AM.zero).b).toNat) (a1.done (fun b hb=>absurd hb z2)) sD
   have d2:=bz.lenL
   unfold maxLen at d2
   refine Al (p:=Ax vo (((T.code.getD k AM.zero).b).toNat) 1) (.inl Z) d1 B7 Z (el _ (Az.refl _ _).drew) Ac<|As 178 [] [] [cz,d1] Z Z Yx Ac (GA _ _ _ _ _ (bx).rd (bz).rd oM oM oM hra.2 hrb.2) ?_
   rintro kx fe ⟨bj,rfl,aa,a4⟩
   refine⟨_,rfl,aa,?_⟩
   replace aa:=aa.of_drew
   have i6:=aa.size
   have em:=a8.trans aa
   have b6:=a2.ext aa
   have en:=a1.ext aa
   have eo:=bx.ext g1 aa
   have ep:=bz.ext g1 aa
   replace a4:=a4.low (B':=f1.heap.size)<|A9 _
   refine Ae 1 Z<|Ad _ [0,0,3,4,0] Z<|Af 2 Z (Bs (u:=bj) (B:=fe.heap.size) Bc Bn AU Z Z (LR fe.heap.size fe.heap.size _<|⟨(Bl a4.isSl).1,(Bl a4.isSl).2⟩) (A9 _) Ac fun kd ke af j4 eq=>?_)
   have i8:=af.size
   have d3:=em.trans af
   have b7:=b6.ext af
   have al:=a4.ext (o1) af
   have c0:=en.ext af
   have j5:=eo.ext g1 af
   have j6:=ep.ext g1 af
   refine Ei (v:=vo) (a:=kd) (u:=bj) Bn AU Z Z Z c0 oM eq (RN.of_fr1 al fun b hb=>zH<|hFl b (by simpa using hb)) sD Kg Ac ?_
   rintro kf k1 G50 c2 d4 ⟨j7,ky,j8⟩
   have i9:ke.heap.size≤k1.heap.size:=c2.size
   have er:AB w k1:=c2.below d3 (fun c hc=>Aa hwB (c0.low c (d4 c hc))) d3.size
   have es:=b7.chg c2 fun hm=>zH<|c0.low _ (d4 _ hm)
   refine Ae 1 Z<|Ad _ [0,0] Z<|AG ((k+1:Nat):Int) Z Z (Bd oM sD) Ac<|Ae 1 Z ?_
   exact⟨(k+1,kf),_,rfl,zR,⟨er,es,oM,oM,oM,Kf,Kh,Ki⟩,zD⟩
  refine Av false Z Z (A8 cy) Ac<|Ae 1 Z<|Aj Z<|qS [0,0] Z ?_
  by_cases d5:(T.code.getD k AM.zero).op=((5:Nat):Int)
  ·refine Av true Z Z (A7 d5) Ac<|Ae 1 Z<|Ag Z<|AW _ [0,0,1,0,1,0,0,1,0,1,3,0] mixed (by kernel_rfl) ?_
   have hio:=(hform k hkl).i2 oM
   have hra:=hR (T.code.getD k AM.zero).a.toNat oM
   have hrb:=hR (T.code.getD k AM.zero).b.toNat oM
   have b3:=hra.1
   have bs:=hrb.1
   refine Af 1 Z<|Aq (p:=zP w7.heap.size) 1 Fd Z Z Ac<|Al (p:=AA (zP w7.heap.size) 1) (.inl Z) (zI<|(T.code.getD k AM.zero).a) AO Z (a0.ldp (i:=1) sM) Ac<|Aw (v:=vo) (((T.code.getD k AM.zero).a).toNat) Bn AU Z Z (a1.done fun b hb=>absurd hb z2).slL oM sD Ac ?_
   obtain⟨d6,et,c3⟩:=RN.getL (w:=f1) g1 [] (k:=((T.code.getD k AM.zero).a).toNat) (a1.done (fun b hb=>absurd hb z2)) sD
   have d7:=c3.lenL
   unfold maxLen at d7
   refine Al (p:=Ax vo (((T.code.getD k AM.zero).a).toNat) 1) (.inl Z) d6 B7 Z (et _ (Az.refl _ _).drew) Ac<|Af 1 Z<|Aq (p:=zP w7.heap.size) 2 EJ Z Z Ac<|Al (p:=AA (zP w7.heap.size) 2) (.inl Z) (zI<|(T.code.getD k AM.zero).b) AO Z (a0.ldp (i:=2) sM) Ac ?_
   refine Aw (v:=vo) (((T.code.getD k AM.zero).b).toNat) Bn AU Z Z (a1.done fun b hb=>absurd hb z2).slL oM sD Ac ?_
   obtain⟨d8,eu,c4⟩:=RN.getL (w:=f1) g1 [] (k:=((T.code.getD k AM.zero).b).toNat) (a1.done (fun b hb=>absurd hb z2)) sD
   have d9:=c4.lenL
   unfold maxLen at d9
   refine Al (p:=Ax vo (((T.code.getD k AM.zero).b).toNat) 1) (.inl Z) d8 B7 Z (eu _ (Az.refl _ _).drew) Ac<|As 179 [] [] [d6,d8] Z Z Rb Ac (DM _ _ _ _ _ (c3).rd (c4).rd oM oM hra.2 hrb.2) ?_
   rintro kz fr ⟨bk,rfl,ab,a5⟩
   refine⟨_,rfl,ab,?_⟩
   replace ab:=ab.of_drew
   have ia:=ab.size
   have ev:=a8.trans ab
   have b8:=a2.ext ab
   have ew:=a1.ext ab
   have ex:=c3.ext g1 ab
   have ey:=c4.ext g1 ab
   replace a5:=a5.low (B':=f1.heap.size)<|A9 _
   refine Ae 1 Z<|Ad _ [0,0,3,4,0] Z<|Af 2 Z (Bs (u:=bk) (B:=fr.heap.size) Bc Bn AU Z Z (LR fr.heap.size fr.heap.size _<|⟨(Bl a5.isSl).1,(Bl a5.isSl).2⟩) (A9 _) Ac fun kg kh ag j9 ez=>?_)
   have ib:=ag.size
   have da:=ev.trans ag
   have b9:=b8.ext ag
   have am:=a5.ext (o1) ag
   have c5:=ew.ext ag
   have ja:=ex.ext g1 ag
   have jb:=ey.ext g1 ag
   refine Ei (v:=vo) (a:=kg) (u:=bk) Bn AU Z Z Z c5 oM ez (RN.of_fr1 am fun b hb=>zH<|hFl b (by simpa using hb)) sD Kg Ac ?_
   rintro ki k2 G63 c6 db ⟨jc,l0,jd⟩
   have ic:kh.heap.size≤k2.heap.size:=c6.size
   have g0:AB w k2:=c6.below da (fun c hc=>Aa hwB (c5.low c (db c hc))) da.size
   have g2:=b9.chg c6 fun hm=>zH<|c5.low _ (db _ hm)
   refine Ae 1 Z<|Ad _ [0,0] Z<|AG ((k+1:Nat):Int) Z Z (Bd oM sD) Ac<|Ae 1 Z ?_
   exact⟨(k+1,ki),_,rfl,zR,⟨g0,g2,oM,oM,oM,Kf,Kh,Ki⟩,zD⟩
  refine Av false Z Z (A8 d5) Ac<|Ae 1 Z<|Aj Z<|qS [0,0] Z ?_
  by_cases dc:(T.code.getD k AM.zero).op=((7:Nat):Int)
  ·refine Av true Z Z (A7 dc) Ac<|Ae 1 Z<|Ag Z<|Ad _ [0,0,2,0,2,3,0] Z ?_
   have hio:=(hform k hkl).i7 oM
   have hra:=hR (T.code.getD k AM.zero).a.toNat oM
   have b3:=hra.1
   refine Af 1 Z<|Aq (p:=zP w7.heap.size) 1 Fd Z Z Ac<|Al (p:=AA (zP w7.heap.size) 1) (.inr Z) (zI<|(T.code.getD k AM.zero).a) AO Z (a0.ldp (i:=1) sM) Ac<|Aw (v:=vo) (((T.code.getD k AM.zero).a).toNat) Bn AU Z Z (a1.done fun b hb=>absurd hb z2).slL oM sD Ac ?_
   obtain⟨dd,g3,c7⟩:=RN.getL (w:=f1) g1 [] (k:=((T.code.getD k AM.zero).a).toNat) (a1.done (fun b hb=>absurd hb z2)) sD
   have de:=c7.lenL
   unfold maxLen at de
   refine Al (p:=Ax vo (((T.code.getD k AM.zero).a).toNat) 1) (.inr Z) dd B7 Z (g3 _<|Az.refl _ _) Ac<|As 187 [] [] [dd,zI ((1000002:Nat):Int)] Z Z Rc Ac (E9 _ _ _ _ (c7).rd oM oM hra.2 oM) ?_
   rintro l1 fs ⟨bl,rfl,an,ah⟩
   refine⟨_,rfl,an,?_⟩
   have id:=an.size
   have g4:=a8.trans an
   have ba:=a2.ext an
   have g5:=a1.ext an
   have g6:=c7.ext g1 an
   refine Ae 1 Z<|Ad _ [0,0,3,4,0] Z<|Af 2 Z (Bs (u:=bl) (B:=fs.heap.size) Bc Bn AU Z Z (LR fs.heap.size fs.heap.size _<|⟨(Bl ah.isSl).1,(Bl ah.isSl).2⟩) (A9 _) Ac fun kj kk ao je g7=>?_)
   have ie:=ao.size
   have df:=g4.trans ao
   have bb:=ba.ext ao
   have ap:=ah.ext (o1) ao
   have c8:=g5.ext ao
   have jf:=g6.ext g1 ao
   refine Ei (v:=vo) (a:=kj) (u:=bl) Bn AU Z Z Z c8 oM g7 (RN.of_fr1 ap fun b hb=>zH<|hFl b (by simpa using hb)) sD Kg Ac ?_
   rintro kl k3 G73 c9 dg ⟨jg,l2,jh⟩
   have ig:kk.heap.size≤k3.heap.size:=c9.size
   have g8:AB w k3:=c9.below df (fun c hc=>Aa hwB (c8.low c (dg c hc))) df.size
   have g9:=bb.chg c9 fun hm=>zH<|c8.low _ (dg _ hm)
   refine Ae 1 Z<|Ad _ [0,0] Z<|AG ((k+1:Nat):Int) Z Z (Bd oM sD) Ac<|Ae 1 Z ?_
   exact⟨(k+1,kl),_,rfl,zR,⟨g8,g9,oM,oM,oM,Kf,Kh,Ki⟩,zD⟩
  refine Av false Z Z (A8 dc) Ac<|Ae 1 Z<|Aj Z<|qS [0,0] Z ?_
  by_cases dh:(T.code.getD k AM.zero).op=((6:Nat):Int)
  ·refine Av true Z Z (A7 dh) Ac<|Ae 1 Z<|Ag Z<|A0<|qS [0,0,2,0,2,0,2,0] Z ?_
   have hio:=(hform k hkl).i2 oM
   have hra:=hR (T.code.getD k AM.zero).a.toNat oM
   have hrb:=hR (T.code.getD k AM.zero).b.toNat oM
   have b3:=hra.1
   have bs:=hrb.1
   refine Af 1 Z<|Aq (p:=zP w7.heap.size) 2 EJ Z Z Ac<|Al (p:=AA (zP w7.heap.size) 2) (.inr Z) (zI<|(T.code.getD k AM.zero).b) AO Z (a0.ldp (i:=2) sM) Ac<|Aw (v:=vo) (((T.code.getD k AM.zero).b).toNat) Bn AU Z Z (a1.done fun b hb=>absurd hb z2).slL oM sD Ac ?_
   obtain⟨ca,ga,bc⟩:=RN.getL (w:=f1) g1 [] (k:=((T.code.getD k AM.zero).b).toNat) (a1.done (fun b hb=>absurd hb z2)) sD
   have di:=bc.lenL
   unfold maxLen at di
   refine Al (p:=Ax vo (((T.code.getD k AM.zero).b).toNat) 1) (.inr Z) ca B7 Z (ga _<|Az.refl _ _) Ac<|Aw (v:=ca) 0 Bm BM Z Z bc.slL Z sD Ac ?_
   have gb:=RN.getI (w:=f1) (k:=0) bc sD
   refine Al (p:=Ax ca 0 1) (.inr Z) (zI<|((Bh (ord.toNat+1) A<|T.code.take k).getD (((T.code.getD k AM.zero).b).toNat) []).getD 0 0) AO Z (gb.1 _<|Az.refl _ _) Ac ?_
   by_cases dj:((Bh (ord.toNat+1) A (T.code.take k)).getD (((T.code.getD k AM.zero).b).toNat) []).getD 0 0=((0:Nat):Int)
   ·exact Av true Z Z (A7 dj) Ac<|Ai<|Ag Z<|qS [0,0] Z<|Ae 2 Z<|A3<|Ap<|AK<|Ap<|AK<|Ap<|Ap<|AK<|Ap<|Ah [6,7] Z (.tuple #[zN,zI ((6:Nat):Int)]) Z ⟨_,_,rfl,a8,.inr ⟨rfl,XQ oM oM oM⟩,(fun h9=>absurd h9 oM)⟩
   refine Av false Z Z (A8 dj) Ac<|Ai<|Aj Z<|A4<|AW _ [0,0,1,0,1,0,0,1,0,1,3,0] mixed (by kernel_rfl)<|Af 1 Z<|Aq (p:=zP w7.heap.size) 1 Fd Z Z Ac<|Al (p:=AA (zP w7.heap.size) 1) (.inl Z) (zI<|(T.code.getD k AM.zero).a) AO Z (a0.ldp (i:=1) sM) Ac ?_
   refine Aw (v:=vo) (((T.code.getD k AM.zero).a).toNat) Bn AU Z Z (a1.done fun b hb=>absurd hb z2).slL oM sD Ac ?_
   obtain⟨dk,gc,cb⟩:=RN.getL (w:=f1) g1 [] (k:=((T.code.getD k AM.zero).a).toNat) (a1.done (fun b hb=>absurd hb z2)) sD
   have dl:=cb.lenL
   unfold maxLen at dl
   refine Al (p:=Ax vo (((T.code.getD k AM.zero).a).toNat) 1) (.inl Z) dk B7 Z (gc _ (Az.refl _ _).drew) Ac<|Af 1 Z<|Aq (p:=zP w7.heap.size) 2 EJ Z Z Ac<|Al (p:=AA (zP w7.heap.size) 2) (.inl Z) (zI<|(T.code.getD k AM.zero).b) AO Z (a0.ldp (i:=2) sM) Ac ?_
   refine Aw (v:=vo) (((T.code.getD k AM.zero).b).toNat) Bn AU Z Z (a1.done fun b hb=>absurd hb z2).slL oM sD Ac ?_
   obtain⟨dm,gd,cc⟩:=RN.getL (w:=f1) g1 [] (k:=((T.code.getD k AM.zero).b).toNat) (a1.done (fun b hb=>absurd hb z2)) sD
   have dn:=cc.lenL
   unfold maxLen at dn
   refine Al (p:=Ax vo (((T.code.getD k AM.zero).b).toNat) 1) (.inl Z) dm B7 Z (gd _ (Az.refl _ _).drew) Ac<|As 177 [] [] [dk,dm] Z Z Yw Ac (FR _ _ _ _ _ (cb).rd (cc).rd oM oM oM hra.2 hrb.2) ?_
   rintro l3 fx ⟨bm,rfl,a7,a6⟩
   refine⟨_,rfl,a7,?_⟩
   replace a7:=a7.of_drew
   have ih:=a7.size
   have ge:=a8.trans a7
   have bd:=a2.ext a7
   have gf:=a1.ext a7
   have gg:=bc.ext g1 a7
   have gh:=cb.ext g1 a7
   have gi:=cc.ext g1 a7
   replace a6:=a6.low (B':=f1.heap.size)<|A9 _
   refine Ae 1 Z<|Ad _ [0,0,3,4,0] Z<|Af 2 Z (Bs (u:=bm) (B:=fx.heap.size) Bc Bn AU Z Z (LR fx.heap.size fx.heap.size _<|⟨(Bl a6.isSl).1,(Bl a6.isSl).2⟩) (A9 _) Ac fun km ko ac ji gj=>?_)
   have ii:=ac.size
   have dp:=ge.trans ac
   have be:=bd.ext ac
   have aq:=a6.ext (o1) ac
   have cd:=gf.ext ac
   have jj:=gg.ext g1 ac
   have jk:=gh.ext g1 ac
   have jl:=gi.ext g1 ac
   refine Ei (v:=vo) (a:=km) (u:=bm) Bn AU Z Z Z cd oM gj (RN.of_fr1 aq fun b hb=>zH<|hFl b (by simpa using hb)) sD Kg Ac ?_
   rintro kp k4 G91 ce dq ⟨jm,l4,jn⟩
   have ij:ko.heap.size≤k4.heap.size:=ce.size
   have gk:AB w k4:=ce.below dp (fun c hc=>Aa hwB (cd.low c (dq c hc))) dp.size
   have gl:=be.chg ce fun hm=>zH<|cd.low _ (dq _ hm)
   refine Ae 1 Z<|Ad _ [0,0] Z<|AG ((k+1:Nat):Int) Z Z (Bd oM sD) Ac<|Ae 1 Z ?_
   exact⟨(k+1,kp),_,rfl,zR,⟨gk,gl,oM,oM,oM,Kf,Kh,Ki⟩,zD⟩
  refine Av false Z Z (A8 dh) Ac<|Ae 1 Z<|Aj Z<|A4<|Ad _ [0,0,3,4,0] Z<|Af 2 Z (Bs (u:=bh) (B:=f1.heap.size) Bc Bn AU Z Z (LR f1.heap.size f1.heap.size _<|⟨(Bl ad.isSl).1,(Bl ad.isSl).2⟩) (A9 _) Ac fun kq kr ax jo gm=>?_)
  have ik:=ax.size
  have dr:=a8.trans ax
  have bf:=a2.ext ax
  have ar:=ad.ext (o1) ax
  have cf:=a1.ext ax
  refine Ei (v:=vo) (a:=kq) (u:=bh) Bn AU Z Z Z cf oM gm (RN.of_fr1 ar fun b hb=>zH<|hFl b (by simpa using hb)) sD Kg Ac ?_
  rintro ks k5 G95 cg ds ⟨jp,l5,jq⟩
  have il:kr.heap.size≤k5.heap.size:=cg.size
  have gn:AB w k5:=cg.below dr (fun c hc=>Aa hwB (cf.low c (ds c hc))) dr.size
  have go:=bf.chg cg fun hm=>zH<|cf.low _ (ds _ hm)
  refine Ae 1 Z<|Ad _ [0,0] Z<|AG ((k+1:Nat):Int) Z Z (Bd oM sD) Ac<|Ae 1 Z ?_
  exact⟨(k+1,ks),_,rfl,zR,⟨gn,go,oM,oM,oM,Kf,Kh,Ki⟩,zD⟩
 exact Ay false Z Z (A8 ck) Ac<|Ai<|A0<|Aj Z<|A6<|Au<|Au<|An<|qS [0,0,0] Z<|Ae 3 Z<|A3<|Ah [6,7] Z (.tuple #[vo,zI ((0:Nat):Int)]) Z ⟨_,_,rfl,dw,.inl ⟨rfl,(by have h9:=hzk;rwa [show k=T.code.length from by omega]at h9)⟩,(fun _=>⟨(by have h9:=av.done (fun b hb=>absurd hb z2);rwa [za oM]at h9),av.cap⟩)⟩
theorem Bu (w:World)(r:Int)(vs:Value)(s:Sr)(S:List Nat)(vo:Nat)(vov:Value)(xs:List (Sr))(usxs:List Value)(Fxs:List Nat)(BO:Nat)(_hr:BI r)(hs:Rd (B3 rI) w.heap vs s)(hcxs:Fj w.heap (zP vo)=some vov)(hbxs:Ic 27 S BO w.heap vov xs usxs Fxs)(hSB:∀b∈S,b<BO)(a9:∀b∈S,b<w.heap.size)(hr:0≤r∧r<(xs.length:Int))(hxl:(xs.getD r.toNat []).length≤s.length∧s.length≤13)(hxn:B9 (xs.getD r.toNat [])=true)(hsn:B9 s=true) :
  Calls Tryz.prog 231 #[zI r,vs,zP vo] w (fun e w'=>e=.returned (.tuple #[])∧Az Fxs w w'∧∃us',Ic 27 S BO w'.heap vov (Ga xs r s) us' Fxs):=by
 refine At [zI r,vs,zP vo] 14 Tryz.func231 Z Z sM ?_
 have a2:AB w w:=AB.refl w
 have ad:=hs.lenle
 have hFl:∀b∈Fxs,b<w.heap.size:=hbxs.lt
 refine AW _ [1,0,1,0,0,1,0,3,0,4] mixed (by kernel_rfl)<|Al (.inl Z) vov DY Z (AR a2.drew hcxs) Ac<|Af 1 Z<|Al (.inl Z) vov DY Z (AR a2.drew hcxs) Ac<|Af 1 Z<|Aw (v:=vov) ((r).toNat) Bn AU Z Z (hbxs.done hSB).none.slL oM sD Ac ?_
 obtain⟨a7,aa,a4⟩:=hbxs.getF (k:=(r).toNat) sD
 have a5:=a4.lenL
 unfold maxLen at a5
 refine Al (p:=Ax vov ((r).toNat) 1) (.inl Z) a7 B7 Z aa Ac<|Af 1 Z<|As 185 [] [] [a7,vs] Z Z U2 Ac (Ge _ _ _ _ _ a4.rd (hs.ext g1 a2.drew) oM oM hxn hsn) ?_
 rintro e2 w2 ⟨a6,rfl,a1,a0⟩
 refine⟨_,rfl,a1,?_⟩
 replace a1:=a1.of_drew
 have ab:=a1.size
 have ac:=a2.trans a1
 have a8:=hbxs.ext a1
 replace a0:=a0.low (B':=w.heap.size)<|A9 _
 refine Aw (v:=vov) ((r).toNat) Bn AU Z Z (a8.done hSB).none.slL oM sD Ac ?_
 refine XR (v:=vov) (u:=a6) (w:=w2) KS Z Z a8 (RN.of_fr1 a0 fun b hb=>by rcases zi.1 hb with hb|hb;(have:=a9 b hb;omega);(have:=hFl b hb;omega)) sD Ac fun w5 a3 ah ae=>?_
 have af:w2.heap.size≤w5.heap.size:=a3.size
 have ag:Az Fxs w w5:=(Az.of_ext _ ac).trans a3
 exact Ai<|Iw [] Z (.tuple #[]) Z ⟨rfl,ag,_,ae⟩
theorem LK {p:Prop}(h:p:=by first|(rw[show(kk-1+1).toNat=kk.toNat from by omega];exact Hz hadj oM (QY oM))|(rw[show(kk-1+1).toNat=kk.toNat from by omega];exact Hz hadj oM (QZ oM))|(rw[show(kk-1+1).toNat=kk.toNat from by omega];exact Hz hadj oM (R0 oM))|(rw[show(kk-1+1).toNat=kk.toNat from by omega];exact Hz hadj oM (R1 oM))|(rw[show(kk-1+1).toNat=kk.toNat from by omega];exact Hz hadj oM (R2 oM))|(rw[show(kk-1+1).toNat=kk.toNat from by omega];exact Hz hadj oM (R3 oM))):p:=h
theorem LL {p:Prop}(h:p:=by(try rw[show((1000002:Nat):Int)=1000002 from rfl]);first|(rw[← QY (k:=kk.toNat) (R:=R) oM];exact HY hxs oM (hform _ hkn))|(rw[← QZ (k:=kk.toNat) (R:=R) oM];exact HY hxs oM (hform _ hkn))|(rw[← R0 (k:=kk.toNat) (R:=R) oM];exact HY hxs oM (hform _ hkn))|(rw[← R1 (k:=kk.toNat) (R:=R) oM];exact HY hxs oM (hform _ hkn))|(rw[← R2 (k:=kk.toNat) (R:=R) oM];exact HY hxs oM (hform _ hkn))|exact hxs):p:=h
theorem GF {p:Prop}(h:p:=by first|exact hro.2|exact hRa.2|exact hRb.2|exact hRk.2|exact FH _ _|exact FG _ _|exact ED _ _):p:=h
theorem I7 {p:Prop}(h:p:=by refine⟨?_,?_⟩ <;> first|omega|(simp only[Hn,FF,E7,Hm];omega)):p:=h
theorem I8 {p:Prop}(h:p:=by first|exact hro.2|exact FH _ _|exact FG _ _|exact ED _ _):p:=h
theorem GG {p:Prop}(h:p:=by first|omega|(simp only[Hn,FF,E7,Hm];omega)):p:=h
theorem LM {p:Prop}(h:p:=by first|exact hxl|(simp only[Cf];exact hxl)):p:=h
theorem DN (w:World)(m:Nat)(ni:Nat)(S:List Nat)(ipT:Int)(vtc vtg vtx:Value)(T:Tp)(oT:Sr)(vr:Value)(R:List (Sr))(vw:Value)(ws:Sr)(c1:∀b∈S,b<w.heap.size)(_hipT:BI ipT)(htcT:RN [] (EQ 4 RM) w.heap vtc T.code)(htgT:RN [] (EQ 2 Tl) w.heap vtg T.grd)(htoT:RN [] (B3 rI) w.heap vtx oT)(hR:RN [] (B3 (B3 rI)) w.heap vr R)(hqR:Cj vr)(hws:Rd (B3 rI) w.heap vw ws)(hm:1≤m∧m≤13)(hsR:BC m R)(hlR:R.length=T.code.length)(hlt:T.code.length≤4000)(hlo:oT.length≤ws.length∧ws.length≤1000000)(ho:∀k,k<oT.length→0≤oT.getD k 0∧oT.getD k 0<(T.code.length:Int))(hnw:B9 ws=true)(hform:∀k,k<T.code.length→Hd ni k (T.code.getD k AM.zero)) :
  Calls Tryz.prog 184 #[(.agg #[(zI ipT),vtc,vtg,vtx]),vr,vw] w (fun e w'=>∃v0:Value,e=.returned v0∧AB w w'∧RN S (B3 (B3 rI)) w'.heap v0 (M5 T.code R oT ws)∧Cj v0):=by
 refine At [.agg #[zI ipT,vtc,vtg,vtx],vr,vw] 159 Tryz.func184 Z Z sM ?_
 have jn:AB w w:=AB.refl w
 have hl_vtx:=htoT.lenL
 unfold maxLen at hl_vtx
 have fe:=hR.lenL
 unfold maxLen at fe
 have m6:=hws.lenle
 refine qS [3,0] Z (C8 (cs:=#[zI ipT,vtc,vtg,vtx]) Z Ac fun w1 gx ks gy=>?_)
 have gz:=gx.size
 have jo:=jn.trans gx
 replace gy:BX w1.heap w.heap.size [zI ipT,vtc,vtg,vtx]:=gy
 refine Ae 1 Z<|qS [3,3,4] Z (BS (AY rI 2) o1 Bn AU Ac fun v2 w2 gu kt jp=>?_)
 have i0:=gu.size
 have jq:=jo.trans gu
 have cu:=gy.ext gu
 have lu:=cu.lt
 refine Br (z:=zN) (by kernel_rfl) Ac fun w3 dx ku i1=>?_
 have i3:=dx.size
 have i4:=jq.trans dx
 have dy:=cu.ext dx
 have c2:=jp.ext (o2) dx
 replace i1:BX w3.heap w2.heap.size [zN]:=i1
 refine BB (k:=0) (w:=w3) bH Z Z (Bo c2.isSl) i1 sM Ac fun w5 dz kv gv=>?_
 replace gv:BX w5.heap w2.heap.size [v2]:=gv
 have jr:AB w w5:=dz.below i4 (fun _ h=>zE h) i4.size
 have i5:w3.heap.size≤w5.heap.size:=dz.size
 have js:=dy.chg dz (zB ·)
 have jt:=c2.chg (o2) dz fun _ h=>zA h
 refine Ai<|A0<|qS [0,0,0] Z<|Af 1 Z<|AN (v:=vr) Bn Z hR.slL Ac<|Ae 1 Z<|A5 ?_
 have hLBa:w.heap.size<w1.heap.size:=by omega
 have hLBb:w1.heap.size≤w2.heap.size:=by omega
 have hLBc:=Nat.le_of_lt hLBa
 obtain⟨Fo8,e0⟩:=Ow.of_fr (T:=w2.heap.size) jt (A9 _)
 have kw:w2.heap.size∉Fo8:=fun hm=>zH<|e0.high _ hm
 have kx:=e0.up (T':=w5.heap.size) oM
 have ky:w2.heap.size<w5.heap.size:=BX.lt gv
 refine AQ (S:=Nat×Value×List Nat) (fun⟨k,vo,Fo⟩=>([(20,zI (k:Int)),(1,vr),(2,vw),(3,zP w.heap.size),(7,zP w2.heap.size),(18,vr),(19,zI (R.length:Int))])) (fun⟨k,vo,Fo⟩ W=>AB w W∧BX W.heap w.heap.size [zI ipT,vtc,vtg,vtx]∧BX W.heap w2.heap.size [vo]∧k≤R.length∧Ow (AY (AY rI 2) 27) w1.heap.size W.heap.size W.heap vo (KL<|R.take k) Fo∧w2.heap.size∉Fo) (fun⟨k,vo,Fo⟩=>R.length-k) (0,v2,Fo8) ⟨rfl,rfl,rfl,rfl,rfl,rfl,rfl,trivial⟩ ⟨jr,js,gv,oM,(by assumption),(by assumption)⟩ ?_
 clear jn ks gx gz jo jp kt gu i0 jq ku dx i3 i4 c2 kv dz jr i5 js jt
 rintro⟨k,vo,Fo⟩ ρ9 w9 ⟨e1,ax,ap,ju,hOl,hgF⟩
 have i6:w.heap.size≤w9.heap.size:=e1.size
 have kz:=ax.lt
 have l0:=ap.lt
 have mv:w2.heap.size<w9.heap.size:=BX.lt ap
 refine qS [0] Z ?_
 by_cases e2:(k:Int)<(R.length:Int)
 ·refine Ay true Z Z (A7 e2) Ac<|Ai<|A0<|Ag Z<|A4<|A0<|A5<|qS [0,2,0] Z<|Aw (v:=vr) k Bn AU Z Z hR.slL Z sD Ac ?_
  obtain⟨e3,i8,e4⟩:=RN.getL (w:=w) g1 [] (k:=k) hR sD
  have e5:=e4.lenL
  unfold maxLen at e5
  refine Al (p:=Ax vr k 1) (.inr Z) e3 B7 Z (i8 _<|Az.of_ext [] e1) Ac<|Ae 1 Z<|AW _ [1,0,0,3,3,4,4] mixed (by kernel_rfl) ?_
  have hrk:=hsR k oM
  have l1:=hrk.1
  refine Al (p:=zP w2.heap.size) (.inl Z) vo DY Z (ap.ld (k:=0) sM) Ac<|Af 1 Z<|AN (v:=e3) Bm Z e4.slL Ac (FM (n:=(R.getD k []).length) Bm BM Z Z Z sD Ac fun mc mw b5 l2 i9=>?_)
  replace b5:=b5.of_drew
  have jv:=b5.size
  have ia:=e1.trans b5
  have c3:=ax.ext b5
  have c4:=ap.ext b5
  have ib:=hOl.ext o2 b5
  refine Bs (u:=mc) (B:=w9.heap.size) o1 Bn AU Z Z i9 (by first|exact A9 _|omega) Ac fun me mf c5 l3 ic=>?_
  have jw:=c5.size
  have e6:=ia.trans c5
  have c6:=c3.ext c5
  have c7:=c4.ext c5
  have df:=ib.ext o2 c5
  refine fd o1 (v:=vo) (a:=me) Bn AU Z Z Z df ic oM oM oM sD (by unfold maxLen;first|omega|assumption|(simp;done)|(simp;omega)) Ac fun m7 lw m8 ck e7 id=>?_
  have jx:mf.heap.size≤lw.heap.size:=ck.size
  have e8:AB w lw:=ck.below e6 (fun c hc=>Aa hLBc (df.low c (zj hc))) e6.size
  have ie:=c6.chg ck fun hm=>zH<|df.low _ (zj hm)
  have ig:=c7.chg ck fun hm=>hgF<|zj hm
  have hF25d:w2.heap.size∉m8:=fun hm=>(id _ hm).elim hgF (fun h9=>by omega)
  refine BB (k:=0) (w:=lw) bH Z Z (Bo e7.slO) ig sM Ac fun lx cl l4 dg=>?_
  replace dg:BX lx.heap w2.heap.size [m7]:=dg
  have ih:AB w lx:=cl.below e8 (fun _ h=>zE h) e8.size
  have jy:lw.heap.size≤lx.heap.size:=cl.size
  have ii:=ie.chg cl (zB ·)
  have ij:=e7.keep o2 cl fun b hb hm=>by rw[Ab hb]at hm;exact hF25d hm
  refine Ai<|Ad _ [0,0] Z<|AG ((k+1:Nat):Int) Z Z (Bd oM sD) Ac<|Ae 1 Z ?_
  have hOe:=(ij).up (T':=lx.heap.size) oM
  rw[XS oM]at hOe
  exact⟨(k+1,m7,m8),_,rfl,zR,⟨ih,ii,dg,oM,hOe,(by assumption)⟩,zD⟩
 refine Ay false Z Z (A8 e2) Ac<|Ai<|A0<|Aj Z<|A6<|Au<|Au<|An<|A0<|qS [0,2,0,0] Z<|Aq (p:=zP w.heap.size) 3 Gz Z Z Ac<|Al (p:=AA (zP w.heap.size) 3) (.inr Z) vtx B7 Z (ax.ldp (i:=3) sM) Ac<|AN (v:=vtx) Bm Z htoT.slL Ac<|Ae 1 Z<|A5 ?_
 refine AQ (S:=Nat) (fun i=>([(34,zI (i:Int)),(1,vr),(2,vw),(3,zP w.heap.size),(7,zP w2.heap.size),(32,vtx),(33,zI (oT.length:Int))])) (fun i W=>AB w W∧BX W.heap w.heap.size [zI ipT,vtc,vtg,vtx]∧BX W.heap w2.heap.size [vo]∧i≤oT.length∧Ow (AY (AY rI 2) 27) w1.heap.size W.heap.size W.heap vo (O4 oT ws i<|KL R) Fo) (fun i=>oT.length-i) 0 ⟨rfl,rfl,rfl,rfl,rfl,rfl,rfl,trivial⟩ ⟨e1,ax,ap,oM,(by have h9:=hOl;rw[za oM]at h9;exact h9)⟩ ?_
 clear ap ax e1 i6
 rintro i ρ30 fr ⟨b6,aj,a5,ik,ay⟩
 have e9:w.heap.size≤fr.heap.size:=b6.size
 have hwl:(O4 oT ws i (KL R)).length=T.code.length:=by rw[EH,Dk];exact hlR
 have l5:=aj.lt
 have l6:=a5.lt
 have l7:w2.heap.size<fr.heap.size:=BX.lt a5
 refine qS [0] Z ?_
 by_cases ea:(i:Int)<(oT.length:Int)
 ·refine Ay true Z Z (A7 ea) Ac<|Ai<|A0<|Ag Z<|A4<|A0<|A5<|qS [0,0,2,0,0] Z<|Af 1 Z<|Aw (v:=vtx) i Bm BM Z Z htoT.slL Z sD Ac ?_
  have il:=RN.getI (w:=w) (k:=i) htoT sD
  refine Al (p:=Ax vtx i 1) (.inr Z) (zI<|oT.getD i 0) AO Z (il.1 _<|Az.of_ext [] b6) Ac<|Ae 2 Z<|AW _ [1,0,0,1,1,0,0,1,0,1,0,0,0,1,0,0,4] mixed (by kernel_rfl) ?_
  have hor:=ho i oM
  have hrw:=Ja (m:=m) (ws:=ws) (HX hsR) (fun q hq=>by have:=ho q hq;rw[Dk];omega) i oM (oT.getD i 0).toNat oM
  have l8:=hrw.1
  refine Al (p:=zP w2.heap.size) (.inl Z) vo DY Z (a5.ld (k:=0) sM) Ac<|Af 1 Z<|Aw (v:=vo) ((oT.getD i 0).toNat) Bn AU Z Z ay.slO oM sD Ac ?_
  obtain⟨dh,eb,ec⟩:=ay.rowO (k:=(oT.getD i 0).toNat) sD
  have ed:=(RN.of ec).lenL
  unfold maxLen at ed
  refine Al (p:=Ax vo ((oT.getD i 0).toNat) 1) (.inl Z) dh B7 Z eb Ac<|Al (p:=zP w2.heap.size) (.inl Z) vo DY Z (a5.ld (k:=0) sM) Ac<|Af 1 Z<|Aw (v:=vo) ((oT.getD i 0).toNat) Bn AU Z Z ay.slO oM sD Ac ?_
  obtain⟨di,im,dj⟩:=ay.rowO (k:=(oT.getD i 0).toNat) sD
  have ee:=(RN.of dj).lenL
  unfold maxLen at ee
  refine Al (p:=Ax vo ((oT.getD i 0).toNat) 1) (.inl Z) di B7 Z im Ac<|Aw (v:=di) 0 Bm BM Z Z (RN.of dj).slL Z sD Ac ?_
  have ef:=RN.getI (w:=fr) (k:=0) (RN.of dj) sD
  refine Al (p:=Ax di 0 1) (.inl Z) (zI<|((O4 oT ws i<|KL R).getD ((oT.getD i 0).toNat) []).getD 0 0) AO Z (ef.1 _ (Az.refl _ _).drew) Ac<|Af 2 Z<|Aw (v:=vw) i Bm BM Z Z hws.isSl Z sD Ac ?_
  refine Al (p:=Ax vw i 1) (.inl Z) (zI<|ws.getD i 0) AO Z (AR b6.drew (hws.getI sD).1) Ac ?_
  refine AD 230 [] [] [zI<|((O4 oT ws i<|KL R).getD ((oT.getD i 0).toNat) []).getD 0 0,zI<|ws.getD i 0] Z Z YD Ac (zI<|md ((((O4 oT ws i<|KL R).getD ((oT.getD i 0).toNat) []).getD 0 0)+(ws.getD i 0))) (fun wq=>IO wq _ _ ef.2 (hws.getI sD).2) ?_
  refine Aw (v:=dh) 0 Bm BM Z Z (RN.of ec).slL Z sD Ac ?_
  refine aP (v:=vo) (u:=dh) (w:=fr.drew) I0 Z Z (DI _) ay sD eb sD Ac fun ly G39 bj l9 dk io=>?_
  replace bj:=bj.of_drew
  have jz:fr.heap.size≤ly.heap.size:=bj.size
  have ip:AB w ly:=bj.below b6 (fun c hc=>Aa hLBc (ay.low c (dk c hc))) b6.size
  have iq:=aj.chg bj fun hm=>zH<|ay.low _ (dk _ hm)
  have ir:=a5.chg bj fun hm=>hgF<|dk _ hm
  refine Ai<|Ad _ [0,0] Z<|AG ((i+1:Nat):Int) Z Z (Bd oM sD) Ac<|Ae 1 Z ?_
  have hOe:=(io).up (T':=ly.heap.size) oM
  exact⟨i+1,_,rfl,zR,⟨ip,iq,ir,oM,hOe⟩,zD⟩
 refine Ay false Z Z (A8 ea) Ac<|Ai<|A0<|Aj Z<|A6<|Au<|Au<|An<|A0<|qS [0,2,0,0,0] Z ?_
 have hOw:=ay
 rw[show i=oT.length from by omega]at hOw
 obtain⟨la,F0,is,k0⟩:=Ic.ofOw (S:=S) hOw (fun b hb=>zH<|c1 b hb)
 have cm:w2.heap.size∉F0:=fun hm=>hgF (k0 _ hm)
 obtain⟨BO,hBO⟩:∃b:Nat,b=w1.heap.size:=⟨_,rfl⟩
 rw[← hBO]at is
 have hwB:w.heap.size≤BO:=by omega
 have hSB:∀b∈S,b<BO:=fun b hb=>zH<|c1 b hb
 obtain⟨B0,gw⟩:∃l:List Sr,l=O4 oT ws oT.length (KL R):=⟨_,rfl⟩
 rw[← gw]at is
 have lb:BC m B0:=by rw[gw];exact Ja (HX hsR) (fun q hq=>by have:=ho q hq;rw[Dk];omega) _ (A9 _)
 have lc:B0.length=T.code.length:=by rw[gw,EH,Dk];exact hlR
 refine Aq (p:=zP w.heap.size) 1 IN Z Z Ac<|Al (p:=AA (zP w.heap.size) 1) (.inr Z) vtc Re Z (aj.ldp (i:=1) sM) Ac<|AN (v:=vtc) YF Z htcT.isSl Ac ?_
 refine Cb ((T.code.length:Int)-((1:Nat):Int)) Z Z (Dh sD sD) Ac<|Ae 1 Z<|A5 ?_
 refine AQ (S:=Int×List Sr×List Value) (fun⟨kk,xs,us⟩=>([(12,zI kk),(1,vr),(3,zP w.heap.size),(7,zP w2.heap.size)])) (fun⟨kk,xs,us⟩ W=>AB w W∧BX W.heap w.heap.size [zI ipT,vtc,vtg,vtx]∧BX W.heap w2.heap.size [vo]∧(-1≤kk∧kk<(T.code.length:Int))∧Ic 27 S BO W.heap vo xs us F0∧BC m xs∧xs.length=T.code.length∧UW T.code R (kk+1).toNat xs=UW T.code R T.code.length B0) (fun⟨kk,xs,us⟩=>(kk+1).toNat) ((T.code.length:Int)-1,B0,la) ⟨rfl,rfl,rfl,rfl,trivial⟩ ⟨b6,aj,a5,oM,is,lb,lc,(by rw[show((T.code.length:Int)-1+1).toNat=T.code.length from by omega])⟩ ?_
 clear a5 aj b6 e9 k0
 rintro⟨kk,xs,us⟩ ρ42 f1 ⟨cn,au,a8,it,hbl,hxs,hxl,hadj⟩
 have k1:w.heap.size≤f1.heap.size:=cn.size
 have le:=au.lt
 have lf:=a8.lt
 have hFl:∀b∈F0,b<f1.heap.size:=hbl.lt
 have lg:=BX.lt a8
 refine A0<|qS [0,0] Z<|Af 1 Z ?_
 by_cases eg:((0:Nat):Int)≤kk
 ·refine FB true Z Z (A7 eg) Ac<|Ai<|Ag Z<|A4<|A0<|A5<|A0 ?_
  letI:JR:=UU [f1.drew.heap.size]
  refine Jx.AW _ [0,1,0,0,1,1,0,0,1,3,3,0] mixed (by kernel_rfl) ?_
  have ba:∀wj,Az [f1.drew.heap.size] f1.drew wj→AB f1.drew wj:=fun wj hj=>Az.toExt hj (fun b hb=>Nat.le_of_eq (Ab hb).symm)
  have hkn:kk.toNat<T.code.length:=by omega
  have hro:=hxs kk.toNat oM
  have lh:=hro.1
  have hRk:=hsR kk.toNat oM
  have li:=hRk.1
  refine Jx.Aq (p:=zP w.heap.size) 1 IN Z Z Ac<|Jx.nQ (p:=AA (zP w.heap.size) 1) vtc Re Z (fun wj hj=>(BX.ext (w:=f1.drew) au<|ba wj hj).ldp (i:=1) sM) Ac<|Jx.f8 (zI kk) Z Ac<|Jx.Aw (v:=vtc) ((kk).toNat) YF LY Z Z htcT.isSl oM sD Ac ?_
  obtain⟨cs49,iu,iv⟩:=htcT.get AT AM.zero (k:=(kk).toNat) sD
  obtain⟨rfl,av⟩:=RZ iu
  refine Jx.jH (p:=Ax vtc ((kk).toNat) 4) [zI<|(T.code.getD ((kk).toNat) AM.zero).op,zI<|(T.code.getD ((kk).toNat) AM.zero).a,zI<|(T.code.getD ((kk).toNat) AM.zero).b,zI<|(T.code.getD ((kk).toNat) AM.zero).num] Ig Z (fun wj hj=>iv wj<|Az.of_ext []<|cn.drew.trans<|ba wj hj) Z Ac<|Jx.nQ (p:=zP w2.heap.size) vo DY Z (fun wj hj=>(BX.ext (w:=f1.drew) a8<|ba wj hj).ldp (i:=0) sM) Ac<|Jx.f8 (zI kk) Z Ac ?_
  refine Jx.Aw (v:=vo) ((kk).toNat) Bn AU Z Z (hbl.done hSB).none.slL oM sD Ac ?_
  obtain⟨a9,iw,dl⟩:=hbl.getF (k:=(kk).toNat) sD
  have eh:=dl.lenL
  unfold maxLen at eh
  refine Jx.nQ (p:=Ax vo ((kk).toNat) 1) a9 B7 Z (fun wj hj=>AR (w:=f1.drew) (ba wj hj) iw) Ac ?_
  have lj:=au.lt
  have lk:=a8.lt
  have k2:f1.drew.heap.size=f1.heap.size:=rfl
  refine Jx.oK<|Br (z:=.agg #[zI 0,zI 0,zI 0,zI 0]) bL Ac ?_
  intro m9 ac ll dm
  refine Ai ?_
  replace ac:=ac.of_drew
  have k3:=ac.size
  have ei:=cn.trans ac
  have bk:=au.ext ac
  have bl:=a8.ext ac
  have lm:=hbl.ext ac
  have ln:=dl.ext g1 ac
  replace dm:BX m9.heap f1.drew.heap.size [zI 0,zI 0,zI 0,zI 0]:=dm
  refine Jx.qX (BR (vs:=[zI<|(T.code.getD ((kk).toNat) AM.zero).op,zI<|(T.code.getD ((kk).toNat) AM.zero).a,zI<|(T.code.getD ((kk).toNat) AM.zero).b,zI<|(T.code.getD ((kk).toNat) AM.zero).num]) Ig Z Z (by intro u hu;simp only[ze,z2,or_false]at hu;rcases hu with rfl|rfl|rfl|rfl <;> first|exact⟨rfl,rfl⟩) dm Z Z Ac fun f2 b7 lo a6=>?_)
  replace a6:BX f2.heap f1.drew.heap.size [zI ((T.code.getD ((kk).toNat) AM.zero).op),zI ((T.code.getD ((kk).toNat) AM.zero).a),zI ((T.code.getD ((kk).toNat) AM.zero).b),zI ((T.code.getD ((kk).toNat) AM.zero).num)]:=a6
  have ad:AB w f2:=b7.below ei (fun _ h=>zE h) ei.size
  have k4:m9.heap.size≤f2.heap.size:=b7.size
  have bm:=bk.chg b7 (zB ·)
  have az:=bl.chg b7 (zB ·)
  have ae:=hbl.ext<|b7.below ac (fun _ h=>zE h) ac.size
  have an:=dl.ext g1<|b7.below ac (fun _ h=>zE h) ac.size
  refine Ai ⟨b7,?_⟩
  refine Jx.V3 a9 Z Ac<|Jx.Ai<|qS [0,0] Z<|P4 [] [zP w2.heap.size] Z Z Ac<|Ae 1 Z<|qS [0,2] Z<|Aq (p:=zP f1.drew.heap.size) 0 PV Z Z Ac<|Al (p:=AA (zP f1.drew.heap.size) 0) (.inr Z) (zI<|(T.code.getD ((kk).toNat) AM.zero).op) AO Z (a6.ldp (i:=0) sM) Ac<|Ai<|A5<|qS [0,0] Z ?_
  by_cases ej:(T.code.getD ((kk).toNat) AM.zero).op=((3:Nat):Int)
  ·refine Av true Z Z (A7 ej) Ac<|Ae 1 Z<|Ag Z<|qS [0,0,2,0,4] Z ?_
   have hio:=(hform kk.toNat hkn).i2 oM
   have hra:=hxs (T.code.getD kk.toNat AM.zero).a.toNat oM
   have co:=hra.1
   have hRa:=hsR (T.code.getD kk.toNat AM.zero).a.toNat oM
   have hRb:=hsR (T.code.getD kk.toNat AM.zero).b.toNat oM
   have dn:=hRa.1
   have dp:=hRb.1
   refine Af 1 Z<|Aq (p:=zP f1.drew.heap.size) 1 Fd Z Z Ac<|Al (p:=AA (zP f1.drew.heap.size) 1) (.inr Z) (zI<|(T.code.getD ((kk).toNat) AM.zero).a) AO Z (a6.ldp (i:=1) sM) Ac<|Af 1 Z ?_
   refine AE 231 [] [zP w2.heap.size] [zI<|(T.code.getD ((kk).toNat) AM.zero).a,a9,zP w2.heap.size] Z Z KR Ac (Bu _ ((T.code.getD ((kk).toNat) AM.zero).a) a9 (xs.getD ((kk).toNat) []) S w2.heap.size vo (xs) _ _ BO av.2.1 an.rd (az.ld (k:=0) sM) ae hSB (fun b hb=>zH<|c1 b hb) oM I7 hra.2 I8) ?_
   rintro mx lz ⟨rfl,bn,lp,cp⟩
   refine⟨_,rfl,?_⟩
   have k5:f2.heap.size≤lz.heap.size:=bn.size
   have ek:AB w lz:=bn.below ad (fun c hc=>Aa hwB (ae.low c hc)) ad.size
   have ix:=bm.chg bn fun hm=>by have:=ae.low _ hm;have:=hFl _ hm;omega
   have el:=az.chg bn fun hm=>cm hm
   have em:=a6.chg bn fun hm=>by have:=ae.low _ hm;have:=hFl _ hm;omega
   have en:=an.chg g1<|bn.sub fun b hb=>z1 _ hb
   have dq:BC m (Ga xs (T.code.getD kk.toNat AM.zero).a (xs.getD kk.toNat [])):=Dl hxs oM
   have iy:(Ga xs (T.code.getD kk.toNat AM.zero).a (xs.getD kk.toNat [])).length=T.code.length:=by rw[Cf];exact hxl
   have hrb:=dq (T.code.getD kk.toNat AM.zero).b.toNat oM
   have dr:=hrb.1
   refine Ai<|Ad _ [0,0,2,0,4] Z<|Af 1 Z<|Aq (p:=zP f1.drew.heap.size) 2 EJ Z Z Ac<|Al (p:=AA (zP f1.drew.heap.size) 2) (.inr Z) (zI<|(T.code.getD ((kk).toNat) AM.zero).b) AO Z (em.ldp (i:=2) sM) Ac<|Af 1 Z ?_
   refine AE 231 [] [zP w2.heap.size] [zI<|(T.code.getD ((kk).toNat) AM.zero).b,a9,zP w2.heap.size] Z Z KR Ac (Bu _ ((T.code.getD ((kk).toNat) AM.zero).b) a9 (xs.getD ((kk).toNat) []) S w2.heap.size vo (Ga xs ((T.code.getD ((kk).toNat) AM.zero).a)<|xs.getD ((kk).toNat) []) _ _ BO av.2.2.1 en.rd (el.ld (k:=0) sM) cp hSB (fun b hb=>zH<|c1 b hb) oM I7 hrb.2 I8) ?_
   rintro my ma ⟨rfl,bo,iz,j0⟩
   refine⟨_,rfl,?_⟩
   have k6:lz.heap.size≤ma.heap.size:=bo.size
   have j1:AB w ma:=bo.below ek (fun c hc=>Aa hwB (cp.low c hc)) ek.size
   have j2:=ix.chg bo fun hm=>by have:=cp.low _ hm;have:=hFl _ hm;omega
   have j3:=el.chg bo fun hm=>cm hm
   have lq:=em.chg bo fun hm=>by have:=cp.low _ hm;have:=hFl _ hm;omega
   have lr:=en.chg g1<|bo.sub fun b hb=>z1 _ hb
   refine Ai<|Ad _ [0,0,0] Z<|Af 1 Z<|Cb (kk-((1:Nat):Int)) Z Z (Dh sD sD) Ac<|Ae 1 Z ?_
   have hbe:=j0
   exact⟨(kk-1,Ga (Ga xs ((T.code.getD ((kk).toNat) AM.zero).a) (xs.getD ((kk).toNat) [])) ((T.code.getD ((kk).toNat) AM.zero).b) (xs.getD ((kk).toNat) []),iz),_,rfl,zR,⟨j1,j2,j3,oM,hbe,LL,LM,LK⟩,zD⟩
  refine Av false Z Z (A8 ej) Ac<|Ae 1 Z<|Aj Z<|qS [0,0] Z ?_
  by_cases eo:(T.code.getD ((kk).toNat) AM.zero).op=((4:Nat):Int)
  ·refine Av true Z Z (A7 eo) Ac<|Ae 1 Z<|Ag Z<|qS [0,0,2,0,4] Z ?_
   have hio:=(hform kk.toNat hkn).i2 oM
   have hra:=hxs (T.code.getD kk.toNat AM.zero).a.toNat oM
   have co:=hra.1
   have hRa:=hsR (T.code.getD kk.toNat AM.zero).a.toNat oM
   have hRb:=hsR (T.code.getD kk.toNat AM.zero).b.toNat oM
   have dn:=hRa.1
   have dp:=hRb.1
   refine Af 1 Z<|Aq (p:=zP f1.drew.heap.size) 1 Fd Z Z Ac<|Al (p:=AA (zP f1.drew.heap.size) 1) (.inr Z) (zI<|(T.code.getD ((kk).toNat) AM.zero).a) AO Z (a6.ldp (i:=1) sM) Ac<|Af 1 Z ?_
   refine AE 231 [] [zP w2.heap.size] [zI<|(T.code.getD ((kk).toNat) AM.zero).a,a9,zP w2.heap.size] Z Z KR Ac (Bu _ ((T.code.getD ((kk).toNat) AM.zero).a) a9 (xs.getD ((kk).toNat) []) S w2.heap.size vo (xs) _ _ BO av.2.1 an.rd (az.ld (k:=0) sM) ae hSB (fun b hb=>zH<|c1 b hb) oM I7 hra.2 I8) ?_
   rintro mz m0 ⟨rfl,bp,ls,j4⟩
   refine⟨_,rfl,?_⟩
   have k7:f2.heap.size≤m0.heap.size:=bp.size
   have j5:AB w m0:=bp.below ad (fun c hc=>Aa hwB (ae.low c hc)) ad.size
   have j6:=bm.chg bp fun hm=>by have:=ae.low _ hm;have:=hFl _ hm;omega
   have j7:=az.chg bp fun hm=>cm hm
   have ep:=a6.chg bp fun hm=>by have:=ae.low _ hm;have:=hFl _ hm;omega
   have eq:=an.chg g1<|bp.sub fun b hb=>z1 _ hb
   have dq:BC m (Ga xs (T.code.getD kk.toNat AM.zero).a (xs.getD kk.toNat [])):=Dl hxs oM
   have iy:(Ga xs (T.code.getD kk.toNat AM.zero).a (xs.getD kk.toNat [])).length=T.code.length:=by rw[Cf];exact hxl
   have hrb:=dq (T.code.getD kk.toNat AM.zero).b.toNat oM
   have dr:=hrb.1
   refine Ai<|AW _ [0,0,1,0,3,4] mixed (by kernel_rfl)<|Af 1 Z<|Aq (p:=zP f1.drew.heap.size) 2 EJ Z Z Ac<|Al (p:=AA (zP f1.drew.heap.size) 2) (.inl Z) (zI<|(T.code.getD ((kk).toNat) AM.zero).b) AO Z (ep.ldp (i:=2) sM) Ac<|Af 1 Z<|As 187 [] [] [a9,zI ((1000002:Nat):Int)] Z Z Rc Ac (E9 _ _ _ _ eq.rd oM GG GF oM) ?_
   rintro n0 mg ⟨cv,rfl,ao,aw⟩
   refine⟨_,rfl,ao,?_⟩
   replace ao:=ao.of_drew
   have k8:=ao.size
   have er:=j5.trans ao
   have cq:=j6.ext ao
   have bb:=j7.ext ao
   have cr:=ep.ext ao
   have ct:=j4.ext ao
   have j8:=eq.ext g1 ao
   replace aw:=aw.low (B':=m0.heap.size)<|A9 _
   refine AE 231 [] [zP w2.heap.size] [zI<|(T.code.getD ((kk).toNat) AM.zero).b,cv,zP w2.heap.size] Z Z KR Ac (Bu _ ((T.code.getD ((kk).toNat) AM.zero).b) cv (CX (xs.getD ((kk).toNat) []) ((1000002:Nat):Int)) S w2.heap.size vo (Ga xs ((T.code.getD ((kk).toNat) AM.zero).a)<|xs.getD ((kk).toNat) []) _ _ BO av.2.2.1 aw.rd1 (bb.ld (k:=0) sM) ct hSB (fun b hb=>zH<|c1 b hb) oM I7 hrb.2 I8) ?_
   rintro n1 mb ⟨rfl,b8,j9,ja⟩
   refine⟨_,rfl,?_⟩
   have k9:mg.heap.size≤mb.heap.size:=b8.size
   have jb:AB w mb:=b8.below er (fun c hc=>Aa hwB (ct.low c hc)) er.size
   have es:=cq.chg b8 fun hm=>by have:=ct.low _ hm;have:=hFl _ hm;omega
   have et:=bb.chg b8 fun hm=>cm hm
   have ka:=cr.chg b8 fun hm=>by have:=ct.low _ hm;have:=hFl _ hm;omega
   have kb:=j8.chg g1<|b8.sub fun b hb=>z1 _ hb
   have kc:=aw.chg (o1) b8 fun c hc=>zH<|hFl c hc
   refine Ai<|Ad _ [0,0,0] Z<|Af 1 Z<|Cb (kk-((1:Nat):Int)) Z Z (Dh sD sD) Ac<|Ae 1 Z ?_
   have hbe:=ja
   exact⟨(kk-1,Ga (Ga xs ((T.code.getD ((kk).toNat) AM.zero).a) (xs.getD ((kk).toNat) [])) ((T.code.getD ((kk).toNat) AM.zero).b) (CX (xs.getD ((kk).toNat) []) ((1000002:Nat):Int)),j9),_,rfl,zR,⟨jb,es,et,oM,hbe,LL,LM,LK⟩,zD⟩
  refine Av false Z Z (A8 eo) Ac<|Ae 1 Z<|Aj Z<|qS [0,0] Z ?_
  by_cases cw:(T.code.getD ((kk).toNat) AM.zero).op=((5:Nat):Int)
  ·refine Av true Z Z (A7 cw) Ac<|Ae 1 Z<|Ag Z<|A0<|AW _ [0,0,1,0,0,0,1,0,1,3,4] mixed (by kernel_rfl) ?_
   have hio:=(hform kk.toNat hkn).i2 oM
   have hra:=hxs (T.code.getD kk.toNat AM.zero).a.toNat oM
   have co:=hra.1
   have hRa:=hsR (T.code.getD kk.toNat AM.zero).a.toNat oM
   have hRb:=hsR (T.code.getD kk.toNat AM.zero).b.toNat oM
   have dn:=hRa.1
   have dp:=hRb.1
   refine Af 1 Z<|Aq (p:=zP f1.drew.heap.size) 1 Fd Z Z Ac<|Al (p:=AA (zP f1.drew.heap.size) 1) (.inl Z) (zI<|(T.code.getD ((kk).toNat) AM.zero).a) AO Z (a6.ldp (i:=1) sM) Ac<|Af 2 Z<|Aq (p:=zP f1.drew.heap.size) 2 EJ Z Z Ac<|Al (p:=AA (zP f1.drew.heap.size) 2) (.inl Z) (zI<|(T.code.getD ((kk).toNat) AM.zero).b) AO Z (a6.ldp (i:=2) sM) Ac ?_
   refine Aw (v:=vr) (((T.code.getD ((kk).toNat) AM.zero).b).toNat) Bn AU Z Z hR.slL oM sD Ac ?_
   obtain⟨cx,eu,cy⟩:=RN.getL (w:=w) g1 [] (k:=((T.code.getD ((kk).toNat) AM.zero).b).toNat) hR sD
   have ds:=cy.lenL
   unfold maxLen at ds
   refine Al (p:=Ax vr (((T.code.getD ((kk).toNat) AM.zero).b).toNat) 1) (.inl Z) cx B7 Z (eu _<|Az.of_ext [] ad.drew) Ac<|As 179 [] [] [a9,cx] Z Z Rb Ac (DM _ _ _ _ _ an.rd (cy.ext g1 ad.drew).rd GG GG GF GF) ?_
   rintro mh m1 ⟨c8,rfl,a2,af⟩
   refine⟨_,rfl,a2,?_⟩
   replace a2:=a2.of_drew
   have jc:=a2.size
   have cz:=ad.trans a2
   have c9:=bm.ext a2
   have b0:=az.ext a2
   have ca:=a6.ext a2
   have bc:=ae.ext a2
   have ev:=an.ext g1 a2
   replace af:=af.low (B':=f2.heap.size)<|A9 _
   refine AE 231 [] [zP w2.heap.size] [zI<|(T.code.getD ((kk).toNat) AM.zero).a,c8,zP w2.heap.size] Z Z KR Ac (Bu _ ((T.code.getD ((kk).toNat) AM.zero).a) c8 (Ci (xs.getD ((kk).toNat) [])<|R.getD (((T.code.getD ((kk).toNat) AM.zero).b).toNat) []) S w2.heap.size vo (xs) _ _ BO av.2.1 af.rd1 (b0.ld (k:=0) sM) bc hSB (fun b hb=>zH<|c1 b hb) oM I7 hra.2 I8) ?_
   rintro mi f3 ⟨rfl,ak,kd,ew⟩
   refine⟨_,rfl,?_⟩
   have jd:m1.heap.size≤f3.heap.size:=ak.size
   have cb:AB w f3:=ak.below cz (fun c hc=>Aa hwB (bc.low c hc)) cz.size
   have ex:=c9.chg ak fun hm=>by have:=bc.low _ hm;have:=hFl _ hm;omega
   have ey:=b0.chg ak fun hm=>cm hm
   have cc:=ca.chg ak fun hm=>by have:=bc.low _ hm;have:=hFl _ hm;omega
   have d0:=ev.chg g1<|ak.sub fun b hb=>z1 _ hb
   have ez:=af.chg (o1) ak fun c hc=>zH<|hFl c hc
   have dq:BC m (Ga xs (T.code.getD kk.toNat AM.zero).a (Ci (xs.getD kk.toNat []) (R.getD (T.code.getD kk.toNat AM.zero).b.toNat []))):=Dl hxs oM
   have iy:(Ga xs (T.code.getD kk.toNat AM.zero).a (Ci (xs.getD kk.toNat []) (R.getD (T.code.getD kk.toNat AM.zero).b.toNat []))).length=T.code.length:=by rw[Cf];exact hxl
   have hrb:=dq (T.code.getD kk.toNat AM.zero).b.toNat oM
   have dr:=hrb.1
   refine Ai<|AW _ [0,0,1,0,0,0,1,0,1,3,4] mixed (by kernel_rfl)<|Af 1 Z<|Aq (p:=zP f1.drew.heap.size) 2 EJ Z Z Ac<|Al (p:=AA (zP f1.drew.heap.size) 2) (.inl Z) (zI<|(T.code.getD ((kk).toNat) AM.zero).b) AO Z (cc.ldp (i:=2) sM) Ac<|Af 2 Z<|Aq (p:=zP f1.drew.heap.size) 1 Fd Z Z Ac<|Al (p:=AA (zP f1.drew.heap.size) 1) (.inl Z) (zI<|(T.code.getD ((kk).toNat) AM.zero).a) AO Z (cc.ldp (i:=1) sM) Ac ?_
   refine Aw (v:=vr) (((T.code.getD ((kk).toNat) AM.zero).a).toNat) Bn AU Z Z hR.slL oM sD Ac ?_
   obtain⟨d1,g0,d2⟩:=RN.getL (w:=w) g1 [] (k:=((T.code.getD ((kk).toNat) AM.zero).a).toNat) hR sD
   have dt:=d2.lenL
   unfold maxLen at dt
   refine Al (p:=Ax vr (((T.code.getD ((kk).toNat) AM.zero).a).toNat) 1) (.inl Z) d1 B7 Z (g0 _<|Az.of_ext [] cb.drew) Ac<|As 179 [] [] [a9,d1] Z Z Rb Ac (DM _ _ _ _ _ d0.rd (d2.ext g1 cb.drew).rd GG GG GF GF) ?_
   rintro mj m2 ⟨cd,rfl,a0,ag⟩
   refine⟨_,rfl,a0,?_⟩
   replace a0:=a0.of_drew
   have je:=a0.size
   have d3:=cb.trans a0
   have bq:=ex.ext a0
   have aq:=ey.ext a0
   have br:=cc.ext a0
   have bs:=ez.ext (o1) a0
   have bd:=ew.ext a0
   have g2:=d0.ext g1 a0
   replace ag:=ag.low (B':=f3.heap.size)<|A9 _
   refine AE 231 [] [zP w2.heap.size] [zI<|(T.code.getD ((kk).toNat) AM.zero).b,cd,zP w2.heap.size] Z Z KR Ac (Bu _ ((T.code.getD ((kk).toNat) AM.zero).b) cd (Ci (xs.getD ((kk).toNat) [])<|R.getD (((T.code.getD ((kk).toNat) AM.zero).a).toNat) []) S w2.heap.size vo (Ga xs ((T.code.getD ((kk).toNat) AM.zero).a)<|Ci (xs.getD ((kk).toNat) [])<|R.getD (((T.code.getD ((kk).toNat) AM.zero).b).toNat) []) _ _ BO av.2.2.1 ag.rd1 (aq.ld (k:=0) sM) bd hSB (fun b hb=>zH<|c1 b hb) oM I7 hrb.2 I8) ?_
   rintro ml fs ⟨rfl,aa,g3,g4⟩
   refine⟨_,rfl,?_⟩
   have jf:m2.heap.size≤fs.heap.size:=aa.size
   have g5:AB w fs:=aa.below d3 (fun c hc=>Aa hwB (bd.low c hc)) d3.size
   have g6:=bq.chg aa fun hm=>by have:=bd.low _ hm;have:=hFl _ hm;omega
   have g7:=aq.chg aa fun hm=>cm hm
   have ke:=br.chg aa fun hm=>by have:=bd.low _ hm;have:=hFl _ hm;omega
   have kf:=g2.chg g1<|aa.sub fun b hb=>z1 _ hb
   have kg:=bs.chg (o1) aa fun c hc=>zH<|hFl c hc
   have kh:=ag.chg (o1) aa fun c hc=>zH<|hFl c hc
   refine Ai<|Ad _ [0,0,0] Z<|Af 1 Z<|Cb (kk-((1:Nat):Int)) Z Z (Dh sD sD) Ac<|Ae 1 Z ?_
   have hbe:=g4
   exact⟨(kk-1,Ga (Ga xs ((T.code.getD ((kk).toNat) AM.zero).a) (Ci (xs.getD ((kk).toNat) []) (R.getD (((T.code.getD ((kk).toNat) AM.zero).b).toNat) []))) ((T.code.getD ((kk).toNat) AM.zero).b) (Ci (xs.getD ((kk).toNat) []) (R.getD (((T.code.getD ((kk).toNat) AM.zero).a).toNat) [])),g3),_,rfl,zR,⟨g5,g6,g7,oM,hbe,LL,LM,LK⟩,zD⟩
  refine Av false Z Z (A8 cw) Ac<|Ae 1 Z<|Aj Z<|qS [0,0] Z ?_
  by_cases d4:(T.code.getD ((kk).toNat) AM.zero).op=((6:Nat):Int)
  ·refine Av true Z Z (A7 d4) Ac<|Ae 1 Z<|Ag Z<|qS [0,0,0,2,0,2,3,0] Z ?_
   have hio:=(hform kk.toNat hkn).i2 oM
   have hra:=hxs (T.code.getD kk.toNat AM.zero).a.toNat oM
   have co:=hra.1
   have hRa:=hsR (T.code.getD kk.toNat AM.zero).a.toNat oM
   have hRb:=hsR (T.code.getD kk.toNat AM.zero).b.toNat oM
   have dn:=hRa.1
   have dp:=hRb.1
   refine Af 2 Z<|Aq (p:=zP f1.drew.heap.size) 2 EJ Z Z Ac<|Al (p:=AA (zP f1.drew.heap.size) 2) (.inr Z) (zI<|(T.code.getD ((kk).toNat) AM.zero).b) AO Z (a6.ldp (i:=2) sM) Ac<|Aw (v:=vr) (((T.code.getD ((kk).toNat) AM.zero).b).toNat) Bn AU Z Z hR.slL oM sD Ac ?_
   obtain⟨d5,g8,d6⟩:=RN.getL (w:=w) g1 [] (k:=((T.code.getD ((kk).toNat) AM.zero).b).toNat) hR sD
   have du:=d6.lenL
   unfold maxLen at du
   refine Al (p:=Ax vr (((T.code.getD ((kk).toNat) AM.zero).b).toNat) 1) (.inr Z) d5 B7 Z (g8 _<|Az.of_ext [] ad) Ac<|As 177 [] [] [a9,d5] Z Z Yw Ac (FR _ _ _ _ _ an.rd (d6.ext g1 ad).rd GG GG oM GF GF) ?_
   rintro mn m3 ⟨b9,rfl,ab,be⟩
   refine⟨_,rfl,ab,?_⟩
   have jg:=ab.size
   have d7:=ad.trans ab
   have ce:=bm.ext ab
   have b1:=az.ext ab
   have b2:=a6.ext ab
   have bf:=ae.ext ab
   have g9:=an.ext g1 ab
   refine Ae 1 Z<|qS [0,0,2,0,4] Z<|Af 1 Z<|Aq (p:=zP f1.drew.heap.size) 1 Fd Z Z Ac<|Al (p:=AA (zP f1.drew.heap.size) 1) (.inr Z) (zI<|(T.code.getD ((kk).toNat) AM.zero).a) AO Z (b2.ldp (i:=1) sM) Ac<|Af 1 Z ?_
   refine AE 231 [] [zP w2.heap.size] [zI<|(T.code.getD ((kk).toNat) AM.zero).a,b9,zP w2.heap.size] Z Z KR Ac (Bu _ ((T.code.getD ((kk).toNat) AM.zero).a) b9 (C6 (xs.getD ((kk).toNat) [])<|R.getD (((T.code.getD ((kk).toNat) AM.zero).b).toNat) []) S w2.heap.size vo (xs) _ _ BO av.2.1 be.rd1 (b1.ld (k:=0) sM) bf hSB (fun b hb=>zH<|c1 b hb) oM I7 hra.2 I8) ?_
   rintro mo f4 ⟨rfl,al,ki,ga⟩
   refine⟨_,rfl,?_⟩
   have jh:m3.heap.size≤f4.heap.size:=al.size
   have cf:AB w f4:=al.below d7 (fun c hc=>Aa hwB (bf.low c hc)) d7.size
   have gb:=ce.chg al fun hm=>by have:=bf.low _ hm;have:=hFl _ hm;omega
   have gc:=b1.chg al fun hm=>cm hm
   have d8:=b2.chg al fun hm=>by have:=bf.low _ hm;have:=hFl _ hm;omega
   have gd:=g9.chg g1<|al.sub fun b hb=>z1 _ hb
   have d9:=be.chg (o1) al fun c hc=>zH<|hFl c hc
   have dq:BC m (Ga xs (T.code.getD kk.toNat AM.zero).a (C6 (xs.getD kk.toNat []) (R.getD (T.code.getD kk.toNat AM.zero).b.toNat []))):=Dl hxs oM
   have iy:(Ga xs (T.code.getD kk.toNat AM.zero).a (C6 (xs.getD kk.toNat []) (R.getD (T.code.getD kk.toNat AM.zero).b.toNat []))).length=T.code.length:=by rw[Cf];exact hxl
   have hrb:=dq (T.code.getD kk.toNat AM.zero).b.toNat oM
   have dr:=hrb.1
   refine Ai<|AW _ [0,0,1,0,0,0,0,1,3,3,4] mixed (by kernel_rfl)<|Af 1 Z<|Aq (p:=zP f1.drew.heap.size) 2 EJ Z Z Ac<|Al (p:=AA (zP f1.drew.heap.size) 2) (.inl Z) (zI<|(T.code.getD ((kk).toNat) AM.zero).b) AO Z (d8.ldp (i:=2) sM) Ac<|Af 3 Z ?_
   refine Aw (v:=vr) ((kk).toNat) Bn AU Z Z hR.slL oM sD Ac ?_
   obtain⟨da,ge,db⟩:=RN.getL (w:=w) g1 [] (k:=(kk).toNat) hR sD
   have dv:=db.lenL
   unfold maxLen at dv
   refine Al (p:=Ax vr ((kk).toNat) 1) (.inl Z) da B7 Z (ge _<|Az.of_ext [] cf.drew) Ac<|As 179 [] [] [b9,da] Z Z Rb Ac (DM _ _ _ _ _ d9.rd1 (db.ext g1 cf.drew).rd GG GG GF GF) ?_
   rintro mp mq ⟨dw,rfl,a1,ah⟩
   refine⟨_,rfl,a1,?_⟩
   replace a1:=a1.of_drew
   have ji:=a1.size
   have gf:=cf.trans a1
   have bt:=gb.ext a1
   have bu:=gc.ext a1
   have bv:=d8.ext a1
   have bw:=d9.ext (o1) a1
   have gg:=ga.ext a1
   have gh:=gd.ext g1 a1
   replace ah:=ah.low (B':=f4.heap.size)<|A9 _
   refine As 187 [] [] [dw,zI ((1000002:Nat):Int)] Z Z Rc Ac (E9 _ _ _ _ ah.rd1 oM GG GF oM) ?_
   rintro mr m4 ⟨cg,rfl,a3,bg⟩
   refine⟨_,rfl,a3,?_⟩
   have jj:=a3.size
   have dc:=gf.trans a3
   have bx:=bt.ext a3
   have ar:=bu.ext a3
   have bz:=bv.ext a3
   have c0:=bw.ext (o1) a3
   have b3:=ah.ext (o1) a3
   have bh:=gg.ext a3
   have gi:=gh.ext g1 a3
   refine AE 231 [] [zP w2.heap.size] [zI<|(T.code.getD ((kk).toNat) AM.zero).b,cg,zP w2.heap.size] Z Z KR Ac (Bu _ ((T.code.getD ((kk).toNat) AM.zero).b) cg (CX (Ci (C6 (xs.getD ((kk).toNat) [])<|R.getD (((T.code.getD ((kk).toNat) AM.zero).b).toNat) [])<|R.getD ((kk).toNat) []) ((1000002:Nat):Int)) S w2.heap.size vo (Ga xs ((T.code.getD ((kk).toNat) AM.zero).a)<|C6 (xs.getD ((kk).toNat) [])<|R.getD (((T.code.getD ((kk).toNat) AM.zero).b).toNat) []) _ _ BO av.2.2.1 bg.rd1 (ar.ld (k:=0) sM) bh hSB (fun b hb=>zH<|c1 b hb) oM I7 hrb.2 I8) ?_
   rintro ms fx ⟨rfl,a7,gj,gk⟩
   refine⟨_,rfl,?_⟩
   have jk:m4.heap.size≤fx.heap.size:=a7.size
   have gl:AB w fx:=a7.below dc (fun c hc=>Aa hwB (bh.low c hc)) dc.size
   have gm:=bx.chg a7 fun hm=>by have:=bh.low _ hm;have:=hFl _ hm;omega
   have gn:=ar.chg a7 fun hm=>cm hm
   have kj:=bz.chg a7 fun hm=>by have:=bh.low _ hm;have:=hFl _ hm;omega
   have kl:=gi.chg g1<|a7.sub fun b hb=>z1 _ hb
   have km:=c0.chg (o1) a7 fun c hc=>zH<|hFl c hc
   have kn:=b3.chg (o1) a7 fun c hc=>zH<|hFl c hc
   have ko:=bg.chg (o1) a7 fun c hc=>zH<|hFl c hc
   refine Ai<|Ad _ [0,0,0] Z<|Af 1 Z<|Cb (kk-((1:Nat):Int)) Z Z (Dh sD sD) Ac<|Ae 1 Z ?_
   have hbe:=gk
   exact⟨(kk-1,Ga (Ga xs ((T.code.getD ((kk).toNat) AM.zero).a) (C6 (xs.getD ((kk).toNat) []) (R.getD (((T.code.getD ((kk).toNat) AM.zero).b).toNat) []))) ((T.code.getD ((kk).toNat) AM.zero).b) (CX (Ci (C6 (xs.getD ((kk).toNat) []) (R.getD (((T.code.getD ((kk).toNat) AM.zero).b).toNat) [])) (R.getD ((kk).toNat) [])) ((1000002:Nat):Int)),gj),_,rfl,zR,⟨gl,gm,gn,oM,hbe,LL,LM,LK⟩,zD⟩
  refine Av false Z Z (A8 d4) Ac<|Ae 1 Z<|Aj Z<|qS [0,0] Z ?_
  by_cases dd:(T.code.getD ((kk).toNat) AM.zero).op=((7:Nat):Int)
  ·refine Av true Z Z (A7 dd) Ac<|Ae 1 Z<|Ag Z<|AW _ [0,0,1,0,3,4] mixed (by kernel_rfl) ?_
   have hio:=(hform kk.toNat hkn).i7 oM
   have hra:=hxs (T.code.getD kk.toNat AM.zero).a.toNat oM
   have co:=hra.1
   refine Af 1 Z<|Aq (p:=zP f1.drew.heap.size) 1 Fd Z Z Ac<|Al (p:=AA (zP f1.drew.heap.size) 1) (.inl Z) (zI<|(T.code.getD ((kk).toNat) AM.zero).a) AO Z (a6.ldp (i:=1) sM) Ac<|Af 1 Z<|As 187 [] [] [a9,zI ((1000002:Nat):Int)] Z Z Rc Ac (E9 _ _ _ _ an.rd oM GG GF oM) ?_
   rintro mt m5 ⟨ch,rfl,a4,ai⟩
   refine⟨_,rfl,a4,?_⟩
   replace a4:=a4.of_drew
   have jl:=a4.size
   have de:=ad.trans a4
   have ci:=bm.ext a4
   have b4:=az.ext a4
   have cj:=a6.ext a4
   have bi:=ae.ext a4
   have go:=an.ext g1 a4
   replace ai:=ai.low (B':=f2.heap.size)<|A9 _
   refine AE 231 [] [zP w2.heap.size] [zI<|(T.code.getD ((kk).toNat) AM.zero).a,ch,zP w2.heap.size] Z Z KR Ac (Bu _ ((T.code.getD ((kk).toNat) AM.zero).a) ch (CX (xs.getD ((kk).toNat) []) ((1000002:Nat):Int)) S w2.heap.size vo (xs) _ _ BO av.2.1 ai.rd1 (b4.ld (k:=0) sM) bi hSB (fun b hb=>zH<|c1 b hb) oM I7 hra.2 I8) ?_
   rintro mu lv ⟨rfl,am,gp,gq⟩
   refine⟨_,rfl,?_⟩
   have jm:m5.heap.size≤lv.heap.size:=am.size
   have gr:AB w lv:=am.below de (fun c hc=>Aa hwB (bi.low c hc)) de.size
   have gs:=ci.chg am fun hm=>by have:=bi.low _ hm;have:=hFl _ hm;omega
   have gt:=b4.chg am fun hm=>cm hm
   have kp:=cj.chg am fun hm=>by have:=bi.low _ hm;have:=hFl _ hm;omega
   have kq:=go.chg g1<|am.sub fun b hb=>z1 _ hb
   have kr:=ai.chg (o1) am fun c hc=>zH<|hFl c hc
   refine Ai<|Ad _ [0,0,0] Z<|Af 1 Z<|Cb (kk-((1:Nat):Int)) Z Z (Dh sD sD) Ac<|Ae 1 Z ?_
   have hbe:=gq
   exact⟨(kk-1,Ga xs ((T.code.getD ((kk).toNat) AM.zero).a) (CX (xs.getD ((kk).toNat) []) ((1000002:Nat):Int)),gp),_,rfl,zR,⟨gr,gs,gt,oM,hbe,LL,LM,LK⟩,zD⟩
  refine Av false Z Z (A8 dd) Ac<|Ae 1 Z<|Aj Z<|A4<|Ad _ [0,0,0] Z<|Af 1 Z ?_
  refine Cb (kk-((1:Nat):Int)) Z Z (Dh sD sD) Ac<|Ae 1 Z ?_
  have hbe:=ae
  exact⟨(kk-1,xs,us),_,rfl,zR,⟨ad,bm,az,oM,hbe,LL,LM,LK⟩,zD⟩
 refine FB false Z Z (A8 eg) Ac<|Ai<|Aj Z<|A6<|Au<|Au<|An<|qS [2,0] Z<|Al (p:=zP w2.heap.size) (.inr Z) vo DY Z (a8.ld (k:=0) sM) Ac<|Ae 1 Z<|A3 ?_
 have hfin:xs=M5 T.code R oT ws:=by have h9:=hadj;rw[show(kk+1).toNat=0 from by omega,gw]at h9;exact h9
 exact Ah [6] Z vo Z ⟨_,rfl,cn,(by rw[← hfin];exact(hbl.done hSB)),hbl.cap⟩
theorem DO (w:World)(m:Nat)(ni:Nat)(S:List Nat)(ipT:Int)(vtc vtg vtx:Value)(T:Tp)(oT:Sr)(vl:Value)(L:List (Sr))(b5:∀b∈S,b<w.heap.size)(_hipT:BI ipT)(htcT:RN [] (EQ 4 RM) w.heap vtc T.code)(htgT:RN [] (EQ 2 Tl) w.heap vtg T.grd)(htoT:RN [] (B3 rI) w.heap vtx oT)(hL:RN [] (B3 (B3 rI)) w.heap vl L)(hqL:Cj vl)(hm:1≤m∧m≤13)(hni:ipT=(ni:Int)∧ni≤1000)(hsL:BC m L)(hlL:L.length=T.code.length∧0<L.length)(hlt:T.code.length≤4000)(hform:∀k,k<T.code.length→Hd ni k (T.code.getD k AM.zero)) :
  Calls Tryz.prog 107 #[(.agg #[(zI ipT),vtc,vtg,vtx]),vl] w (fun e w'=>∃v0:Value,e=.returned v0∧AB w w'∧RN S (B3 (B3 rI)) w'.heap v0 (gK ni m T.code L)∧Cj v0):=by
 refine At [.agg #[zI ipT,vtc,vtg,vtx],vl] 54 Tryz.func107 Z Z sM ?_
 have bt:AB w w:=AB.refl w
 have hl_vtx:=htoT.lenL
 unfold maxLen at hl_vtx
 have cz:=hL.lenL
 unfold maxLen at cz
 have bu:=hsL 0 oM
 have c9:=bu.1
 refine qS [3,0] Z (C8 (cs:=#[zI ipT,vtc,vtg,vtx]) Z Ac fun w1 b6 ca b7=>?_)
 have b8:=b6.size
 have b9:=bt.trans b6
 replace b7:BX w1.heap w.heap.size [zI ipT,vtc,vtg,vtx]:=b7
 refine Ae 1 Z<|qS [3,0,0] Z (BS (AY rI 2) o1 Bn AU Ac fun v2 w2 b2 cb bv=>?_)
 have ba:=b2.size
 have bb:=b9.trans b2
 have ai:=b7.ext b2
 refine Ae 2 Z<|A0<|qS [0,0,0] Z<|Af 1 Z<|AN (v:=vl) Bn Z hL.slL Ac ?_
 have cc:((0:Nat):Int)<(L.length:Int):=oM
 refine C9 true Z Z (A7 cc) Ac<|Ai<|Ag Z<|Ad _ [0,0,2,0,0] Z<|Af 1 Z<|Aw (v:=vl) 0 Bn AU Z Z hL.slL Z sD Ac ?_
 obtain⟨bw,cd,bx⟩:=RN.getL (w:=w) g1 [] (k:=0) hL sD
 have ao:=bx.lenL
 unfold maxLen at ao
 refine Al (p:=Ax vl 0 1) (.inr Z) bw B7 Z (cd _<|Az.of_ext [] bb) Ac<|AN (v:=bw) Bm Z bx.slL Ac<|Ae 1 Z<|A0<|qS [0,2,0] Z<|Aq (p:=zP w.heap.size) 0 iM Z Z Ac<|Al (p:=AA (zP w.heap.size) 0) (.inr Z) (zI ipT) AO Z (ai.ldp (i:=0) sM) Ac<|Ae 1 Z<|A5 ?_
 refine AQ (S:=Nat×Value) (fun⟨k,vo⟩=>([(5,vo),(19,zI (k:Int)),(1,vl),(2,zP w.heap.size),(6,zI (((L.getD 0 []).length:Nat):Int)),(18,zI ipT)])) (fun⟨k,vo⟩ W=>AB w W∧Fr (AY (AY rI 2) 27) w1.heap.size W.heap.size W.heap vo (List.replicate k<|List.replicate m 0)∧BX W.heap w.heap.size [zI ipT,vtc,vtg,vtx]∧k≤ni∧w.heap.size<w1.heap.size∧w1.heap.size≤W.heap.size) (fun⟨k,vo⟩=>ni-k) (0,v2) ⟨rfl,rfl,rfl,rfl,rfl,rfl,trivial⟩ ⟨bb,bv.up o2,ai,oM,oM,oM⟩ ?_
 clear bt bu ca b6 bv cb b2 ba bb ao
 rintro⟨k,vo⟩ ρ6 w6 ⟨b3,a4,a2,bz,ce,cf⟩
 have bc:w.heap.size≤w6.heap.size:=b3.size
 have cx:=a2.lt
 refine qS [0] Z ?_
 by_cases c0:(k:Int)<ipT
 ·refine Ay true Z Z (A7 c0) Ac<|Ai<|A0<|Ag Z<|A4<|A0<|A5<|Ad _ [0,0,3,3,4,0] Z<|Af 2 Z (FM (n:=(L.getD 0 []).length) Bm BM Z Z Z sD Ac fun d5 da ab cg bd=>?_)
  have c1:=ab.size
  have be:=b3.trans ab
  have a5:=a4.ext (o2) ab
  have a6:=a2.ext ab
  refine Bs (u:=d5) (B:=w6.heap.size) o1 Bn AU Z Z bd (by first|exact A9 _|omega) Ac fun d6 d7 ac ch bf=>?_
  have c2:=ac.size
  have ap:=be.trans ac
  have a7:=a5.ext (o2) ac
  have a8:=a6.ext ac
  refine Ez o1 (v:=vo) (a:=d6) Bn AU Z Z Z a7 oM bf oM oM sD (by unfold maxLen;first|omega|assumption|(simp;done)|(simp;omega)) Ac fun d8 d1 db ak aq bg=>?_
  have bh:AB w d1:=ak.below ap (fun c hc=>Aa b9.size (aq c hc).1) ap.size
  have c3:d7.heap.size≤d1.heap.size:=ak.size
  have bi:=a8.chg ak fun hm=>zH<|aq _ hm
  exact Ae 1 Z<|Ad _ [0,0] Z<|AG ((k+1:Nat):Int) Z Z (Bd oM oM) Ac<|Ae 1 Z ⟨(k+1,d8),_,rfl,zR,⟨bh,(by have h:=bg.up o2;rw[c9,← List.replicate_succ']at h;exact h),bi,oM,oM,oM⟩,zD⟩
 refine Ay false Z Z (A8 c0) Ac<|Ai<|A0<|Aj Z<|A6<|Au<|Au<|An<|A0<|qS [0,2,0,0] Z ?_
 have hOw:=a4
 rw[show k=ni from by omega]at hOw
 obtain⟨ci,F0,bj,cj⟩:=Ic.ofFr (S:=S) hOw (fun b hb=>zH<|b5 b hb)
 obtain⟨BO,hBO⟩:∃b:Nat,b=w1.heap.size:=⟨_,rfl⟩
 rw[← hBO]at bj
 have hwB:w.heap.size≤BO:=by omega
 have hSB:∀b∈S,b<BO:=fun b hb=>zH<|b5 b hb
 obtain⟨B0,b4⟩:∃l:List Sr,l=(List.replicate ni (List.replicate m 0)):=⟨_,rfl⟩
 rw[← b4]at bj
 have ck:BC m B0:=by rw[b4];exact KM m ni
 have bk:B0.length=ni:=by rw[b4,z5]
 refine Aq (p:=zP w.heap.size) 1 IN Z Z Ac<|Al (p:=AA (zP w.heap.size) 1) (.inr Z) vtc Re Z (a2.ldp (i:=1) sM) Ac<|AN (v:=vtc) YF Z htcT.isSl Ac<|Ae 1 Z<|A5<|AQ (S:=Nat×List Value) (fun⟨j,us⟩=>([(30,zI (j:Int)),(1,vl),(5,vo),(28,vtc),(29,zI (T.code.length:Int))])) (fun⟨j,us⟩ W=>AB w W∧j≤T.code.length∧Ic 27 S BO W.heap vo (UJ T.code L j B0) us F0) (fun⟨j,us⟩=>T.code.length-j) (0,ci) ⟨rfl,rfl,rfl,rfl,rfl,trivial⟩ ⟨b3,oM,bj⟩ ?_
 clear b8 b9 a2 a4 b3 bc cj
 rintro⟨j,us⟩ ρ14 cy ⟨ad,bl,hbl⟩
 have c4:w.heap.size≤cy.heap.size:=ad.size
 have hFl:∀b∈F0,b<cy.heap.size:=hbl.lt
 refine qS [0] Z ?_
 by_cases ar:(j:Int)<(T.code.length:Int)
 ·refine Ay true Z Z (A7 ar) Ac<|Ai<|A0<|Ag Z<|A4<|A0<|A5<|qS [0,0,2,3,0,4] Z ?_
  have hjk:j<T.code.length:=by omega
  refine Af 1 Z<|Aw (v:=vtc) j YF LY Z Z htcT.isSl Z sD Ac ?_
  obtain⟨cs16,bm,bn⟩:=htcT.get AT AM.zero (k:=j) sD
  obtain⟨rfl,cl⟩:=RZ bm
  refine AZ (p:=Ax vtc j 4) (.inr Z) [zI<|(T.code.getD j AM.zero).op,zI<|(T.code.getD j AM.zero).a,zI<|(T.code.getD j AM.zero).b,zI<|(T.code.getD j AM.zero).num] Ig Z (fun d9 cm=>bn d9<|Az.of_ext []<|ad.trans cm) Z Ac (Br (z:=.agg #[zI 0,zI 0,zI 0,zI 0]) bL Ac fun d2 a9 cn al=>?_)
  have c5:=a9.size
  have au:=ad.trans a9
  have co:=hbl.ext a9
  replace al:BX d2.heap cy.heap.size [zI 0,zI 0,zI 0,zI 0]:=al
  refine Af 1 Z (BR (vs:=[zI<|(T.code.getD j AM.zero).op,zI<|(T.code.getD j AM.zero).a,zI<|(T.code.getD j AM.zero).b,zI<|(T.code.getD j AM.zero).num]) Ig Z Z (by intro u hu;simp only[ze,z2,or_false]at hu;rcases hu with rfl|rfl|rfl|rfl <;> first|exact⟨rfl,rfl⟩) al Z Z Ac fun d0 am cp a3=>?_)
  replace a3:BX d0.heap cy.heap.size [zI ((T.code.getD j AM.zero).op),zI ((T.code.getD j AM.zero).a),zI ((T.code.getD j AM.zero).b),zI ((T.code.getD j AM.zero).num)]:=a3
  have ae:AB w d0:=am.below au (fun _ h=>zE h) au.size
  have c6:d2.heap.size≤d0.heap.size:=am.size
  have af:=hbl.ext<|am.below a9 (fun _ h=>zE h) a9.size
  refine Ai<|qS [0,2,0] Z<|Aq (p:=zP cy.heap.size) 0 PV Z Z Ac<|Al (p:=AA (zP cy.heap.size) 0) (.inr Z) (zI<|(T.code.getD j AM.zero).op) AO Z (a3.ldp (i:=0) sM) Ac ?_
  by_cases av:(T.code.getD j AM.zero).op=((1:Nat):Int)
  ·refine Av true Z Z (A7 av) Ac<|Ai<|Ag Z<|AW _ [0,0,1,0,0,1,0,1,0,0,0,1,3,0,4] mixed (by kernel_rfl) ?_
   have hio:=(hform j hjk).i1 oM
   have hra:=Mx (cs:=T.code) (L:=L) (B:=B0) (fun q hq=>by rw[bk];exact hform q hq) ck j oM (T.code.getD j AM.zero).num.toNat (by rw[Jb,bk];omega)
   have cq:=hra.1
   have hLj:=hsL j oM
   have cr:=hLj.1
   have hbn:(UJ T.code L j B0).length=ni:=by rw[Jb,bk]
   refine Af 1 Z<|Aq (p:=zP cy.heap.size) 3 PW Z Z Ac<|Al (p:=AA (zP cy.heap.size) 3) (.inl Z) (zI<|(T.code.getD j AM.zero).num) AO Z (a3.ldp (i:=3) sM) Ac<|Af 1 Z<|Aq (p:=zP cy.heap.size) 3 PW Z Z Ac<|Al (p:=AA (zP cy.heap.size) 3) (.inl Z) (zI<|(T.code.getD j AM.zero).num) AO Z (a3.ldp (i:=3) sM) Ac ?_
   refine Aw (v:=vo) (((T.code.getD j AM.zero).num).toNat) Bn AU Z Z (af.done hSB).none.slL oM sD Ac ?_
   obtain⟨aw,bo,an⟩:=af.getF (k:=((T.code.getD j AM.zero).num).toNat) sD
   have ax:=an.lenL
   unfold maxLen at ax
   refine Al (p:=Ax vo (((T.code.getD j AM.zero).num).toNat) 1) (.inl Z) aw B7 Z bo Ac<|Af 2 Z<|Aw (v:=vl) j Bn AU Z Z hL.slL Z sD Ac ?_
   obtain⟨ay,bp,az⟩:=RN.getL (w:=w) g1 [] (k:=j) hL sD
   have b0:=az.lenL
   unfold maxLen at b0
   refine Al (p:=Ax vl j 1) (.inl Z) ay B7 Z (bp _<|Az.of_ext [] ae.drew) Ac<|As 185 [] [] [aw,ay] Z Z U2 Ac (Ge _ _ _ _ _ an.rd (az.ext g1 ae.drew).rd oM oM hra.2 hLj.2) ?_
   rintro dc d3 ⟨aj,rfl,a1,a0⟩
   refine⟨_,rfl,a1,?_⟩
   replace a1:=a1.of_drew
   have c7:=a1.size
   have b1:=ae.trans a1
   have ag:=a3.ext a1
   have ah:=af.ext a1
   have bq:=an.ext g1 a1
   replace a0:=a0.low (B':=d0.heap.size)<|A9 _
   refine Aw (v:=vo) (((T.code.getD j AM.zero).num).toNat) Bn AU Z Z (ah.done hSB).none.slL oM sD Ac ?_
   refine XR (v:=vo) (u:=aj) (w:=d3) KS Z Z ah (RN.of_fr1 a0 fun b hb=>by rcases zi.1 hb with hb|hb;(have:=b5 b hb;omega);(have:=hFl b hb;omega)) sD Ac fun d4 aa ct br=>?_
   have c8:d3.heap.size≤d4.heap.size:=aa.size
   have bs:AB w d4:=aa.below b1 (fun c hc=>Aa hwB (ah.low c hc)) b1.size
   have cu:=ag.chg aa fun hm=>by have:=ah.low _ hm;have:=hFl _ hm;omega
   have cv:=bq.chg g1<|aa.sub fun b hb=>z1 _ hb
   have cw:=a0.chg (o1) aa fun c hc=>zH<|hFl c hc
   refine Ai<|Ad _ [0,0] Z<|AG ((j+1:Nat):Int) Z Z (Bd oM sD) Ac<|Ae 1 Z ?_
   have hbe:=br
   exact⟨(j+1,us.set (((T.code.getD j AM.zero).num).toNat) aj),_,rfl,zR,⟨bs,oM,(by first|(rw[Ns oM];exact hbe)|(rw[Nt oM];exact hbe))⟩,zD⟩
  refine Av false Z Z (A8 av) Ac<|Ai<|Aj Z<|A4<|Ad _ [0,0] Z<|AG ((j+1:Nat):Int) Z Z (Bd oM sD) Ac<|Ae 1 Z ?_
  have hbe:=af
  exact⟨(j+1,us),_,rfl,zR,⟨ae,oM,(by first|(rw[Ns oM];exact hbe)|(rw[Nt oM];exact hbe))⟩,zD⟩
 exact Ay false Z Z (A8 ar) Ac<|Ai<|A0<|Aj Z<|A6<|Au<|Au<|An<|qS [0,0] Z<|Ae 2 Z<|A3<|Ah [4] Z vo Z ⟨_,rfl,ad,(by have h9:=(hbl.done hSB);rw[show j=T.code.length from by omega,b4]at h9;exact h9),hbl.cap⟩
theorem L2 (w:World)(o:Int)(_ho:BI o)(ho:0≤o∧o≤12) :
  Calls Tryz.prog 171 #[zI o] w (fun e w'=>∃v0:Value,e=.returned (v0)∧AB w w'∧Fr (AY rI 2) w.heap.size w'.heap.size w'.heap v0 ((List.replicate (o.toNat+1) 0).set 1 1)):=by
 refine At [zI o] 12 Tryz.func171 Z Z sM ?_
 have a6:AB w w:=AB.refl w
 refine qT Z<|qS [0,0,3,0] Z<|Af 1 Z<|AG ((o.toNat+1:Nat):Int) Z Z (Bd oM oM) Ac (FM (n:=o.toNat+1) Bm BM Z Z Z sD Ac fun v1 w1 a2 ab a0=>?_)
 have a7:=a2.size
 have a1:=a6.trans a2
 refine Ae 1 Z<|A0<|qS [0,0] Z<|Af 1 Z ?_
 by_cases a3:((0:Nat):Int)<o
 ·refine C9 true Z Z (A7 a3) Ac<|Ai<|Ag Z<|Ad _ [0,0,4] Z<|Af 1 Z<|Aw (v:=v1) 1 Bm BM Z Z a0.isSl Z (by simp;omega) Ac (EV (v:=v1) (w:=w1) I0 Z Z oM a0 (by simp;omega) Ac fun w3 F3 a4 ac a8 a5=>?_)
  have a9:AB w w3:=a4.below a1 (fun c hc=>Aa (A9 _) (a8 c hc).1) a1.size
  have aa:w1.heap.size≤w3.heap.size:=a4.size
  exact Ai<|qS [0,0] Z<|Ae 2 Z<|A3<|Ah [2] Z v1 Z ⟨v1,rfl,a9,(by first|exact a5.up o1|(have h:=a5.up o1;rw[show o.toNat=0 from by omega]at h ⊢;exact h))⟩
 exact C9 false Z Z (A8 a3) Ac<|Ai<|Aj Z<|A4<|qS [0,0] Z<|Ae 2 Z<|A3<|Ah [2] Z v1 Z ⟨v1,rfl,a1,(by first|exact a0.up o1|(have h:=a0.up o1;rw[show o.toNat=0 from by omega]at h ⊢;exact h))⟩
theorem Dp (w:World)(vl:Value)(L:List (Sr))(vp:Value)(ps:Sr)(hL:RN [] (B3 (B3 rI)) w.heap vl L)(hqL:Cj vl)(hps:Rd (B3 rI) w.heap vp ps)(hp:∀k,k<ps.length→0≤ps.getD k 0∧ps.getD k 0<(L.length:Int))(hpl:ps.length≤1000000) :
  Calls Tryz.prog 111 #[vl,vp] w (fun e w'=>∃v0:Value,e=.returned v0∧AB w w'∧RN [] (B3 (B3 rI)) w'.heap v0 (gL L ps)∧Cj v0):=by
 refine At [vl,vp] 24 Tryz.func111 Z Z sM ?_
 have ab:AB w w:=AB.refl w
 have ay:=hL.lenL
 unfold maxLen at ay
 have az:=hps.lenle
 have hS:∀b∈([]:List Nat),b<w.heap.size:=fun b hb=>by cases hb
 refine qT Z<|qS [3,0] Z ?_
 obtain⟨BO,hBO⟩:∃b:Nat,b=w.heap.size:=⟨_,rfl⟩
 have hwB:w.heap.size≤BO:=by omega
 refine BS rV Bc Bn AU Ac fun v1 w1 a2 ai a3=>?_
 have a4:=a2.size
 have ac:=ab.trans a2
 obtain⟨aq,F1,ar⟩:=Ic.nil (S:=[]) (by rw[← hBO]at a3;exact a3)
 refine Ae 1 Z<|A0<|qS [0,0,0] Z<|Af 1 Z<|AN (v:=vp) Bm Z hps.isSl Ac<|Ae 1 Z<|A5<|AQ (S:=Nat×Value) (fun⟨k,vo⟩=>([(5,vo),(11,zI (k:Int)),(0,vl),(9,vp),(10,zI (ps.length:Int))])) (fun⟨k,vo⟩ W=>AB w W∧k≤ps.length∧w.heap.size≤BO∧BO≤W.heap.size∧Pa 27 [] BO W.heap vo (gL L<|ps.take k)) (fun⟨k,vo⟩=>ps.length-k) (0,v1) ⟨rfl,rfl,rfl,rfl,rfl,trivial⟩ ⟨ac,oM,oM,oM,(by exact⟨_,_,by assumption⟩)⟩ ?_
 clear ab a3 ai a2 a4 ac
 rintro⟨k,vo⟩ ρ2 w2 ⟨a1,ad,ae,af,hbld⟩
 have aj:w.heap.size≤w2.heap.size:=a1.size
 have hpkl:(gL L (ps.take k)).length=k:=by unfold gL;rw[zg,List.length_take];omega
 obtain⟨au,F3,a0⟩:=hbld
 have hFl:∀b∈F3,b<w2.heap.size:=a0.lt
 refine qS [0] Z ?_
 by_cases ag:(k:Int)<(ps.length:Int)
 ·refine Ay true Z Z (A7 ag) Ac<|Ai<|A0<|Ag Z<|A4<|A0<|A5<|qS [0,2,0] Z<|Aw (v:=vp) k Bm BM Z Z hps.isSl Z sD Ac ?_
  refine Al (p:=Ax vp k 1) (.inr Z) (zI<|ps.getD k 0) AO Z (AR a1 (hps.getI sD).1) Ac<|Ae 1 Z<|Ad _ [0,0,0,0,2,3,4,0] Z ?_
  have hpk:=hp k oM
  refine Af 3 Z<|Aw (v:=vl) ((ps.getD k 0).toNat) Bn AU Z Z hL.slL oM sD Ac ?_
  obtain⟨a5,ak,a6⟩:=RN.getL (w:=w) g1 [] (k:=(ps.getD k 0).toNat) hL sD
  have a7:=a6.lenL
  unfold maxLen at a7
  refine Al (p:=Ax vl ((ps.getD k 0).toNat) 1) (.inr Z) a5 B7 Z (ak _<|Az.of_ext [] a1) Ac (Bs (u:=a5) (B:=w2.heap.size) Bc Bn AU Z Z (LR w2.heap.size w2.heap.size _<|a6.one1 g1) (A9 _) Ac fun v6 w6 a8 av al=>?_)
  have am:=a8.size
  have a9:=a1.trans a8
  have aa:=a0.ext a8
  refine Ei (v:=vo) (a:=v6) (u:=a5) Bn AU Z Z Z aa oM al (RN.stp g1 a6 (Az.of_ext [] a9) fun b hb=>.inr (zH<|aa.low b (by simpa using hb))) sD (by unfold maxLen;first|omega|assumption|(simp;done)|(simp;omega)) Ac ?_
  rintro v8 w8 G8 ah an ⟨aw,F8,ax⟩
  have ao:w6.heap.size≤w8.heap.size:=ah.size
  have ap:AB w w8:=ah.below a9 (fun c hc=>Aa hwB (aa.low c (an c hc))) a9.size
  exact Ae 1 Z<|Ad _ [0,0] Z<|AG ((k+1:Nat):Int) Z Z (Bd oM sD) Ac<|Ae 1 Z ⟨(k+1,v8),_,rfl,zR,⟨ap,oM,oM,oM,(by rw[XU oM];exact⟨_,_,by assumption⟩)⟩,zD⟩
 exact Ay false Z Z (A8 ag) Ac<|Ai<|A0<|Aj Z<|A6<|Au<|Au<|An<|qS [0,0] Z<|Ae 2 Z<|A3<|Ah [4] Z vo Z ⟨_,rfl,a1,(by have h9:=(a0.done fun b hb=>absurd hb z2);rw[za oM]at h9;exact h9),a0.cap⟩
theorem NW (w:World)(vx:Value)(X:List (List (Sr)))(hX:RN [] (B3 (Io (B3 rI))) w.heap vx X)(hx:∀k,k<X.length→1≤(X.getD k []).length)(hxl:X.length≤1000000) :
  Calls Tryz.prog 174 #[vx] w (fun e w'=>∃v0:Value,e=.returned v0∧AB w w'∧RN [] (B3 (Io (B3 rI))) w'.heap v0 (GS X)∧Cj v0):=by
 refine At [vx] 20 Tryz.func174 Z Z sM ?_
 have ad:AB w w:=AB.refl w
 refine qT Z<|qS [3,0] Z ?_
 obtain⟨BG,hBG⟩:∃b:Nat,b=w.heap.size:=⟨_,rfl⟩
 have hwG:w.heap.size≤BG:=by omega
 refine BS rV Bc Ds DX Ac fun v1 w1 a5 ak a6=>?_
 have a7:=a5.size
 have ae:=ad.trans a5
 obtain⟨av,F1,aw⟩:=H4.nil (E:=Io (B3 rI)) (S:=[]) (by rw[← hBG]at a6;exact a6)
 refine Ae 1 Z<|A0<|qS [0,0,0] Z<|Af 1 Z<|AN (v:=vx) Ds Z hX.slL Ac<|Ae 1 Z<|A5<|AQ (S:=Nat×Value) (fun⟨k,vo⟩=>([(3,vo),(9,zI (k:Int)),(7,vx),(8,zI (X.length:Int))])) (fun⟨k,vo⟩ W=>AB w W∧k≤X.length∧w.heap.size≤BG∧BG≤W.heap.size∧(∃us F,H4 (Io<|B3 rI) 30 [] BG W.heap vo (GS<|X.take k) us F)) (fun⟨k,vo⟩=>X.length-k) (0,v1) ⟨rfl,rfl,rfl,rfl,trivial⟩ ⟨ae,oM,oM,oM,(by exact⟨_,_,by assumption⟩)⟩ ?_
 clear ad a6 ak a5 a7 ae
 rintro⟨k,vo⟩ ρ2 w2 ⟨a3,af,ag,ah,hbldg⟩
 have al:w.heap.size≤w2.heap.size:=a3.size
 have hwol:(GS (X.take k)).length=k:=by unfold GS;rw[zg,List.length_take];omega
 obtain⟨ax,F3,a0⟩:=hbldg
 have hFlg:∀b∈F3,b<w2.heap.size:=a0.lt
 refine qS [0] Z ?_
 by_cases ai:(k:Int)<(X.length:Int)
 ·refine Ay true Z Z (A7 ai) Ac<|Ai<|A0<|Ag Z<|A4<|A0<|A5<|qS [0,2,0] Z ?_
  have hxk:=hx k oM
  refine Aw (v:=vx) k Ds DX Z Z hX.slL Z sD Ac ?_
  obtain⟨a4,am,an⟩:=RN.getL (w:=w) O5 [] (k:=k) hX sD
  obtain⟨a8,a1⟩:=an.of2
  have a9:=a8.lenL
  unfold maxLen at a9
  refine Al (p:=Ax vx k 1) (.inr Z) a4 DY Z (am _<|Az.of_ext [] a3) Ac<|Ae 1 Z<|Ad _ [0,0,0,3,4,0] Z<|Af 2 Z<|cR (v:=a4) Bn AU Z a8.slL a1 Z sD Ac ?_
  have a2:=a8.suf g1 sD a1
  refine Bs (u:=PK a4) (B:=w2.heap.size) Bc Ds DX Z Z (LR w2.heap.size w2.heap.size _<|a2.one1 g2) (A9 _) Ac fun v7 w7 aa ay ao=>?_
  have ap:=aa.size
  have ab:=a3.trans aa
  have ac:=a0.ext O5 aa
  refine My O5 (v:=vo) (a:=v7) (u:=PK a4) Ds DX Z Z Z ac oM ao (RN.mk2 (RN.stp g2 a2 (Az.of_ext [] ab) fun b hb=>.inr (zH<|ac.low b (by simpa using hb)))<|XT a1) sD (by unfold maxLen;first|omega|assumption|(simp;done)|(simp;omega)) Ac ?_
  rintro v9 w9 G9 aj aq ⟨az,F9,b0⟩
  have ar:w7.heap.size≤w9.heap.size:=aj.size
  have au:AB w w9:=aj.below ab (fun c hc=>Aa hwG (ac.low c (aq c hc))) ab.size
  exact Ae 1 Z<|Ad _ [0,0] Z<|AG ((k+1:Nat):Int) Z Z (Bd oM sD) Ac<|Ae 1 Z ⟨(k+1,v9),_,rfl,zR,⟨au,oM,oM,oM,(by rw[XV oM];exact⟨_,_,by assumption⟩)⟩,zD⟩
 exact Ay false Z Z (A8 ai) Ac<|Ai<|A0<|Aj Z<|A6<|Au<|Au<|An<|qS [0,0] Z<|Ae 2 Z<|A3<|Ah [2] Z vo Z ⟨_,rfl,a3,(by have h9:=(a0.done fun b hb=>absurd hb z2);rw[za oM]at h9;exact h9),a0.cap⟩
theorem Sz {p:Prop}(h:p:=by unfold maxLen;first|omega|assumption|(simp only[zb,z9,z4,z6,z5];omega)|(simp[zb,z9,z4,z6,z5];done)|(simp[zb,z9,z4,z6,z5];omega)):p:=h
theorem SA {p:Prop}(h:p:=by rw[XW];exact⟨_,_,by assumption⟩):p:=h
theorem SB {p:Prop}(h:p:=by intro q hq;rw[BV];exact hOu q hq):p:=h
theorem SD {p:Prop}(h:p:=by show(0:Int)≤0∧(0:Int)≤9;omega):p:=h
theorem LN {p:Prop}(h:p:=by rw[C7];exact hl):p:=h
theorem I9 {p:Prop}(h:p:=by exact hTI.form):p:=h
theorem CH {p:Prop}(h:p:=by assumption):p:=h
theorem Ir (w:World)(dp:Nat)(vp:Value)(p:List Fn)(f:Int)(m:Nat)(vA:Value)(A:List (Sr))(hp:RP [] dp w.heap vp p)(_hf:BI f)(hA:RN [] (B3 (B3 rI)) w.heap vA A)(hqA:Cj vA)(hok:KE p=true)(hz:Px p)(hf:0≤f∧f<(p.length:Int))(hl:(A.length:Int)=(p.getD f.toNat Fn.zero).params)(hm:1≤m∧m≤13)(hsA:BC m A)(ly:0<A.length) :
  Calls Tryz.prog 173 #[(.agg #[vp]),zI f,vA] w (fun e w'=>∃(v0 v1:Value) (c:Int),e=.returned (.tuple #[v0,v1,zI c])∧AB w w'∧c=H2 p m f.toNat A∧(0≤c∧c≤9)∧(c=0→RN [] (B3 (B3 rI)) w'.heap v0 (CS p m f.toNat A)∧Cj v0∧∃T xs s1,AX (KI p f.toNat (BF A)) (xs,T) s1 0∧xs.length=(p.getD f.toNat Fn.zero).outs.length∧RN [] (B3 (Io (B3 rI))) w'.heap v1 (HG m T xs A xs.length)∧Cj v1)):=by
 refine At [.agg #[vp],zI f,vA] 63 Tryz.func173 Z Z sM ?_
 have lz:AB w w:=AB.refl w
 have s5:=hp.lenle
 unfold maxLen at s5
 have s6:=hA.lenL
 unfold maxLen at s6
 have r1:=(hsA 0 ly).1
 have rs:=Fu hok
 have ua:=rs.par f.toNat oM
 have ub:=rs.outs f.toNat oM
 have ii:∀k,k<A.length→0<(A.getD k []).length:=fun k hk=>zH<|(hsA k hk).1
 have hfn:A.map (fun s=>s.getD 0 0)=BF A:=rfl
 refine qS [3,0,0,0] Z (C8 (cs:=#[vp]) Z Ac fun w1 ij m8 ic=>?_)
 have g8:=ij.size
 have id:=lz.trans ij
 replace ic:BX w1.heap w.heap.size [vp]:=ic
 refine Ae 3 Z<|A0 ?_
 letI:JR:=UU []
 refine Jx.jS _ [1,0,0,3,3,0,0,0,3,4,0] [0,1,2] 3 4 [5,6,7,8,9,10] 8 [4,5,6,7,9,10] 8 [3,4,5,6,7,9,10] [_,_,_] [1,0,0] _ _ [_,_,_,_,_,_] [0,0,0,3,4,0] _ [_,_,_,_,_,_] [3,0,0,0,4,0] _ [_,_,_,_,_,_,_] [3,3,0,0,0,4,0] mixed (by kernel_rfl) ⟨rfl,rfl,⟨rfl,rfl,⟨rfl,rfl,trivial⟩⟩⟩ ⟨rfl,rfl,trivial⟩ ⟨rfl,rfl,⟨rfl,rfl,⟨rfl,rfl,⟨rfl,rfl,⟨rfl,rfl,⟨rfl,rfl,⟨rfl,rfl,trivial⟩⟩⟩⟩⟩⟩⟩ ⟨rfl,rfl,⟨rfl,rfl,⟨rfl,rfl,⟨rfl,rfl,⟨rfl,rfl,⟨rfl,rfl,⟨rfl,rfl,trivial⟩⟩⟩⟩⟩⟩⟩ ⟨rfl,rfl,⟨rfl,rfl,⟨rfl,rfl,⟨rfl,rfl,⟨rfl,rfl,⟨rfl,rfl,⟨rfl,rfl,⟨rfl,rfl,trivial⟩⟩⟩⟩⟩⟩⟩⟩<|Jx.jH (p:=zP w.heap.size) [vp] CL Z (fun wj hj=>LD.of_box<|BX.ext (w:=w1.drew) ic<|Az.ext0 hj) Z Ac<|Jx.f8 (zI f) Z Ac ?_
 refine Jx.f8 vA Z Ac<|Jx.Ai ⟨?_,?_⟩
 ·refine Jx.ZL Z<|As 106 [] [] [vA] Z Z dP Ac (JE _ _ _ (hA.ext g2 id.drew).rd oM ii) ?_
  rintro e2 w2 ⟨ds,rfl,e4,an⟩
  refine⟨_,rfl,e4,?_⟩
  replace e4:=e4.of_drew
  have ik:=e4.size
  have il:=id.trans e4
  have cx:=ic.ext e4
  replace an:=an.low (B':=w1.heap.size)<|A9 _
  refine Ai ⟨?_,?_⟩
  ·refine Jx.ZL Z<|As 29 [] [] [.agg #[vp],zI f,ds] Z Z iG Ac (Hb _ dp vp (p) (f) ds (A.map fun s=>s.getD 0 0) (hp.ext (Am<|AC dp) il) _hf (RN.of_fr1 an fun b hb=>absurd hb z2) hok hz oM (by rw[zg];exact hl) (by exact E8 hsA)) ?_
   rintro e3 w3 ⟨i3,ra,rb,r5,r7,T3,s3,c3,rfl,ie,g9,q9,m9,ga,ma⟩
   refine⟨_,rfl,ie,?_⟩
   have mb:=ie.size
   have od:=il.trans ie
   have e5:=cx.ext ie
   have ca:=an.ext (o1) ie
   have qa:H2 p m f.toNat A=c3:=KJ hm.1 rs oM (E8 hsA) (EZ hsA) LN g9
   have mc:=AB.refl w3
   refine Af 1 Z<|AI (vs:=[.agg #[zI i3,ra,rb,r5],zI c3]) (.agg #[zI i3,ra,rb,r5]) Z Z Ac<|AI (vs:=[.agg #[zI i3,ra,rb,r5],zI c3]) (zI c3) Z Z Ac ?_
   have r2:=e5.lt
   refine Br (z:=.agg #[zI 0,zN,zN,zN]) bK Ac fun w4 ig qb md=>?_
   have me:=ig.size
   have mf:=od.trans ig
   have qc:=mc.trans ig
   have im:=e5.ext ig
   have cb:=ca.ext (o1) ig
   replace md:BX w4.heap w3.heap.size [zI 0,zN,zN,zN]:=md
   refine BR (vs:=[zI i3,ra,rb,r5]) FK Z Z (fun u hu=>by rcases ze.1 hu with rfl|hu;exact⟨rfl,rfl⟩;exact m9 u hu) md Z Z Ac fun w6 ih qd m0=>?_
   replace m0:BX w6.heap w3.heap.size [zI i3,ra,rb,r5]:=m0
   have m1:AB w w6:=ih.below mf (fun _ h=>zE h) mf.size
   have mg:w4.heap.size≤w6.heap.size:=ih.size
   have oe:=im.chg ih (zB ·)
   have og:=cb.chg (o1) ih fun _ h=>zA h
   have gb:Az [w3.heap.size] w3 w6:=(Az.of_ext _ qc).trans ih
   refine Ae 1 Z<|A0<|qS [0,0] Z<|Af 1 Z ?_
   by_cases oh:c3≠((0:Nat):Int)
   ·exact B4 true Z Z (A7 oh) Ac<|Ai<|Ag Z<|qS [0,0,0,0] Z<|Ae 4 Z<|A3<|Ap<|Ah [6,7,8] Z (.tuple #[zN,zN,zI c3]) Z ⟨_,_,_,rfl,m1,oM,oM,(fun h9=>absurd h9 oM)⟩
   refine B4 false Z Z (A8 oh) Ac<|Ai<|Aj Z<|A4<|A0<|AW _ [1,0,0,3,3,0,0,0,0,0] mixed (by kernel_rfl) ?_
   have ao:c3=0:=by omega
   obtain⟨oi,hTB,oj,hxl,hEn,io,ip,iq⟩:=ma ao
   obtain⟨hTI,hEv⟩:=KK hm.1 rs oM (E8 hsA) (EZ hsA) LN g9 ao
   have hnz:=hTI.nz
   have hcl:=hTI.cl
   have bj:=g9
   rw[ao]at bj
   have hTl:T3.code.length≤4000:=by have:=hTB.2.1;omega
   have cy:RT w6.heap.size (EQ 4 RM) w6.heap ra T3.code:=RN.rt (Am AT) (RN.chg (Am AT) (RG.rnG (g:=w3.heap.size) (Am AT) io oM) gb)
   have cz:RT w6.heap.size (EQ 2 Tl) w6.heap rb T3.grd:=RN.rt (Am B1) (RN.chg (Am B1) (RG.rnG (g:=w3.heap.size) (Am B1) ip oM) gb)
   have d0:RT w6.heap.size (B3 rI) w6.heap r5 r7:=RN.rt g1 (RN.chg g1 (RG.rnG (g:=w3.heap.size) g1 iq oM) gb)
   have hoo:=IL hm.1 ly hsA
   have hom:((E1 A:Nat):Int).toNat+1=m:=by omega
   have hSR:=hTI.regs
   have ok:0<T3.code.length:=by have:=hTI.outs hEn 0 oM;omega
   have hOu:=hTI.outs hEn
   have hAd:=fun ws=>hTI.adj (ws:=ws) hEn
   refine AZ (p:=zP w3.heap.size) (.inl Z) [zI i3,ra,rb,r5] FK Z (fun ru bk=>LD.of_box<|BX.ext (w:=w6.drew) m0 bk) Z Ac<|Af 2 Z<|As 172 [] [] [vA] Z Z U1 Ac (EM _ vA (A) (hA.ext g2 m1.drew) hqA (by exact fun h=>ii 0 h)) ?_
   rintro uc ud ⟨rfl,al⟩
   refine⟨_,rfl,al,?_⟩
   replace al:=al.of_drew
   have ir:=al.size
   have gc:=m1.trans al
   have d1:=oe.ext al
   have d2:=og.ext (o1) al
   have gd:=m0.ext al
   have is:=cy.ext (Am AT) al
   have it:=cz.ext (Am B1) al
   have iu:=d0.ext g1 al
   refine As 109 [] [] [.agg #[zI i3,ra,rb,r5],vA,zI ((E1 A:Nat):Int)] Z Z Yo Ac (Dz _ (i3) ra rb r5 (T3) (r7) vA (A) ((E1 A:Nat):Int) ga is.rn it.rn iu.rn (hA.ext g2 gc) hqA (by unfold E1;omega) oM (by rw[hom];exact hsA) I9 hTl) ?_
   rintro ue sf ⟨rp,rv,rfl,ax,e6,iv⟩
   refine⟨_,rfl,ax,?_⟩
   have iw:=ax.size
   have ix:=gc.trans ax
   have c0:=d1.ext ax
   have d3:=d2.ext (o1) ax
   have d4:=gd.ext ax
   have mh:=is.ext (Am AT) ax
   have mi:=it.ext (Am B1) ax
   have mj:=iu.ext g1 ax
   have ol:rv=0∨rv=6:=by unfold aO at e6;omega
   have hcz:rv=0:=by rcases e6 with h9|h9;exact h9.1;(have h8:=h9.2;rw[hom]at h8;exact absurd hnz h8)
   obtain⟨bl,hrvc⟩:=iv hcz
   rw[hom]at bl
   have hrvt:=bl.rt g2
   refine Af 1 Z<|AI (vs:=[rp,zI rv]) rp Z Z Ac<|AI (vs:=[rp,zI rv]) (zI rv) Z Z Ac<|Ae 2 Z<|A0<|qS [0,0] Z<|Af 1 Z ?_
   by_cases iy:rv≠((0:Nat):Int)
   ·exact absurd iy oM
   refine B4 false Z Z (A8 iy) Ac<|Ai<|Aj Z<|A4<|qS [3,0] Z ?_
   obtain⟨BG,hBG⟩:∃b:Nat,b=sf.heap.size:=⟨_,rfl⟩
   have hwG:w.heap.size≤BG:=by omega
   have om:sf.heap.size≤BG:=by omega
   have on:w6.heap.size≤BG:=by omega
   have qe:w.heap.size<BG:=by have:=BX.lt c0;omega
   have qf:w3.heap.size<BG:=by have:=BX.lt d4;omega
   refine BS rV Bc Ds DX Ac fun t4 uf ay mk ge=>?_
   have iz:=ay.size
   have j0:=ix.trans ay
   have gf:=c0.ext ay
   have gg:=d3.ext (o1) ay
   have d5:=d4.ext ay
   have qg:=mh.ext (Am AT) ay
   have qh:=mi.ext (Am B1) ay
   have ml:=mj.ext g1 ay
   have qi:=hrvt.ext g2 ay
   obtain⟨qj,ug,qk⟩:=H4.nil (E:=Io (B3 rI)) (S:=[]) (by rw[← hBG]at ge;exact ge)
   refine Ae 1 Z<|A0<|qS [0,2,0,0] Z<|Aq (p:=zP w3.heap.size) 3 Gz Z Z Ac<|Al (p:=AA (zP w3.heap.size) 3) (.inr Z) r5 B7 Z (d5.ldp (i:=3) sM) Ac<|AN (v:=r5) Bm Z ml.slL Ac<|Ae 1 Z<|A5 ?_
   refine AQ (S:=Nat×Value) (fun⟨k,vo⟩=>([(12,vo),(40,zI (k:Int)),(9,zP w3.heap.size),(11,rp),(39,zI (r7.length:Int))])) (fun⟨k,vo⟩ W=>AB w W∧BX W.heap w3.heap.size [zI i3,ra,rb,r5]∧k≤r7.length∧w.heap.size≤BG∧BG≤W.heap.size∧(∃us F,H4 (Io<|B3 rI) 30 [] BG W.heap vo (HG m T3 r7 A k) us F)∧RT w6.heap.size (EQ 4 RM) W.heap ra T3.code∧RT w6.heap.size (EQ 2 Tl) W.heap rb T3.grd∧RT w6.heap.size (B3 rI) W.heap r5 r7∧w6.heap.size≤W.heap.size∧RT sf.heap.size (B3<|B3 rI) W.heap rp (Bh m A T3.code)∧sf.heap.size≤W.heap.size) (fun⟨k,vo⟩=>r7.length-k) (0,t4) ⟨rfl,rfl,rfl,rfl,rfl,trivial⟩ ⟨j0,d5,oM,oM,oM,(by exact⟨_,_,by assumption⟩),CH,CH,CH,oM,CH,oM⟩ ?_
   clear lz m8 ij g8 id an e4 ik il ie mb od ca qb ig me mf cb qd ih m1 mg oe og al ir gc d1 d2 ax iw ix c0 d3 ge mk ay iz j0 gf gg
   rintro⟨k,vo⟩ ρ30 rx ⟨gh,ag,mm,mn,mo,hbldg,hta,htb,htc,hNR,d6,oo⟩
   have op:w.heap.size≤rx.heap.size:=gh.size
   have ql:=ag.lt
   obtain⟨qm,t0,cc⟩:=hbldg
   have hFlg:∀b∈t0,b<rx.heap.size:=cc.lt
   refine qS [0] Z ?_
   by_cases j1:(k:Int)<(r7.length:Int)
   ·refine Ay true Z Z (A7 j1) Ac<|Ai<|A0<|Ag Z<|A4<|A0<|A5<|qS [0,0] Z<|Ae 2 Z<|AW _ [0,1,1,0,0,1,0,0,3,3,3,3,3,4,0] mixed (by kernel_rfl)<|Af 1 Z<|AZ (p:=zP w3.heap.size) (.inl Z) [zI i3,ra,rb,r5] FK Z (fun ru bk=>LD.of_box<|BX.ext (w:=rx.drew) ag bk) Z Ac<|AZ (p:=zP w3.heap.size) (.inl Z) [zI i3,ra,rb,r5] FK Z (fun ru bk=>LD.of_box<|BX.ext (w:=rx.drew) ag bk) Z Ac<|Af 1 Z<|Aq (p:=zP w3.heap.size) 3 Gz Z Z Ac ?_
    refine Al (p:=AA (zP w3.heap.size) 3) (.inl Z) r5 B7 Z (ag.ldp (i:=3) sM) Ac<|AN (v:=r5) Bm Z htc.slL Ac<|Af 1 Z (Bs (u:=zI (k:Int)) (B:=rx.heap.size) AS Bm BM Z Z (Mf rx.heap.size rx.heap.size _ _ oM) (A9 _) Ac fun t5 uh az qn mp=>?_)
    replace az:=az.of_drew
    have oq:=az.size
    have mq:=gh.trans az
    have cj:=ag.ext az
    have mr:=d6.ext g2 az
    have ms:=hta.ext (Am AT) az
    have mt:=htb.ext (Am B1) az
    have mu:=htc.ext g1 az
    have mv:=cc.ext O5 az
    refine As 182 [] [] [zI (r7.length:Int),t5] Z Z Yy Ac (Q9 _ (r7.length) _ _ sD mp.rd1 oM (by intro j hj;rw[zd]at hj;obtain rfl:j=0:=oM;exact⟨Int.natCast_nonneg k,(by show(k:Int)<_;omega)⟩)) ?_
    rintro ui uj ⟨e7,rfl,bd,gi⟩
    refine⟨_,rfl,bd,?_⟩
    have or:=bd.size
    have mw:=mq.trans bd
    have ck:=cj.ext bd
    have j2:=mr.ext g2 bd
    have j3:=ms.ext (Am AT) bd
    have j4:=mt.ext (Am B1) bd
    have j5:=mu.ext g1 bd
    have mx:=mv.ext O5 bd
    refine As 184 [] [] [.agg #[zI i3,ra,rb,r5],rp,e7] Z Z Yz Ac (DN _ m A.length [] (i3) ra rb r5 (T3) (r7) rp (Bh m A T3.code) e7 (Gw r7.length ([(k:Int)]) ([(k:Int)]).length) (fun b hb=>absurd hb z2) ga j3.rn j4.rn j5.rn j2.rn hrvc gi.rd1 hm hSR (by rw[BV]) hTl (by rw[IK];omega) hOu (by exact Hx _ _ _) I9) ?_
    rintro uk t6 ⟨t1,rfl,be,j6,j7⟩
    refine⟨_,rfl,be,?_⟩
    have os:=be.size
    have my:=mw.trans be
    have cm:=ck.ext be
    have mz:=j2.ext g2 be
    have j8:=j3.ext (Am AT) be
    have j9:=j4.ext (Am B1) be
    have ja:=j5.ext g1 be
    have n0:=mx.ext O5 be
    refine As 107 [] [] [.agg #[zI i3,ra,rb,r5],t1] Z Z Yn Ac (DO _ m A.length t0 (i3) ra rb r5 (T3) (r7) t1 (M5 T3.code (Bh m A T3.code) r7<|Gw r7.length [(k:Int)] 1) (fun b hb=>(by have:=hFlg b hb;omega:b<t6.heap.size)) ga j8.rn j9.rn ja.rn j6 j7 hm oM (by exact hAd _) (by rw[Nv,BV];omega) hTl I9) ?_
    rintro ul sh ⟨t2,rfl,b0,jb,jc⟩
    refine⟨_,rfl,b0,?_⟩
    have ot:=b0.size
    have n1:=my.trans b0
    have cn:=cm.ext b0
    have n2:=mz.ext g2 b0
    have n3:=j8.ext (Am AT) b0
    have n4:=j9.ext (Am B1) b0
    have n5:=ja.ext g1 b0
    have n6:=j6.ext g2 b0
    have n7:=n0.ext O5 b0
    refine Bs (u:=t2) (B:=sh.heap.size) Bc Ds DX Z Z (LR sh.heap.size sh.heap.size _<|jb.one1 g2) (A9 _) Ac fun t7 t8 b1 qo n8=>?_
    have ou:=b1.size
    have jd:=n1.trans b1
    have co:=cn.ext b1
    have n9:=n2.ext g2 b1
    have na:=n3.ext (Am AT) b1
    have nb:=n4.ext (Am B1) b1
    have nc:=n5.ext g1 b1
    have qp:=n6.ext g2 b1
    have nd:=jb.ext g2 b1
    have c1:=n7.ext O5 b1
    refine My O5 (v:=vo) (a:=t7) (u:=t2) Ds DX Z Z Z c1 oM n8 (RN.mk2 (by rw[zl];exact nd) jc) sD Sz Ac ?_
    rintro t9 t3 G67 c2 cp ⟨qq,um,qr⟩
    have ov:t8.heap.size≤t3.heap.size:=c2.size
    have ne:AB w t3:=c2.below jd (fun c hc=>Aa hwG (c1.low c (cp c hc))) jd.size
    have nf:=co.chg c2 fun hm=>zH<|c1.low _ (cp _ hm)
    have qs:=n9.chg g2 c2 fun b hb=>zH<|c1.low _ (cp _ hb)
    have qt:=na.chg (Am AT) c2 fun b hb=>zH<|c1.low _ (cp _ hb)
    have qu:=nb.chg (Am B1) c2 fun b hb=>zH<|c1.low _ (cp _ hb)
    have qv:=nc.chg g1 c2 fun b hb=>zH<|c1.low _ (cp _ hb)
    exact Ae 1 Z<|Ad _ [0,0] Z<|AG ((k+1:Nat):Int) Z Z (Bd oM sD) Ac<|Ae 1 Z ⟨(k+1,t9),_,rfl,zR,⟨ne,nf,oM,oM,oM,SA,CH,CH,CH,oM,CH,oM⟩,zD⟩
   refine Ay false Z Z (A8 j1) Ac<|Ai<|A0<|Aj Z<|A6<|Au<|Au<|An<|qS [0,0,2,3,0,0,0,0] Z ?_
   have je:=cc.done fun b hb=>absurd hb z2
   have jf:=cc.cap
   refine Af 1 Z<|Aq (p:=zP w3.heap.size) 3 Gz Z Z Ac<|Al (p:=AA (zP w3.heap.size) 3) (.inr Z) r5 B7 Z (ag.ldp (i:=3) sM) Ac<|As 111 [] [] [rp,r5] Z Z Yp Ac (Dp _ rp (Bh m A T3.code) r5 (r7) d6.rn hrvc htc.rd SB oM) ?_
   rintro un uo ⟨ta,rfl,bm,ng,jg⟩
   refine⟨_,rfl,bm,?_⟩
   have ow:=bm.size
   have nh:=gh.trans bm
   have qw:=d6.ext g2 bm
   have ni:=je.ext nU bm
   have qx:=hta.ext (Am AT) bm
   have qy:=htb.ext (Am B1) bm
   have qz:=htc.ext g1 bm
   exact Ae 4 Z<|A3<|Ah [6,7,8] Z (.tuple #[ta,vo,zI ((0:Nat):Int)]) Z ⟨_,_,_,rfl,nh,(by show(0:Int)=_;omega),SD,(fun _=>⟨(by rw[hEv];exact ng),jg,T3,r7,s3,bj,hxl,(by have h9:=ni;rw[show k=r7.length from by omega]at h9;exact h9),jf⟩)⟩
  refine Jx.ZL Z ?_
  have r0:=cx.lt
  refine Br (z:=.agg #[zI 0,zN,zN,zN]) bK Ac fun tb d7 nj gj=>?_
  have jh:=d7.size
  have gk:=il.trans d7
  have gl:=cx.ext d7
  have ap:=an.ext (o1) d7
  replace gj:BX tb.heap w2.heap.size [zI 0,zN,zN,zN]:=gj
  refine As 29 [] [] [.agg #[vp],zI f,ds] Z Z iG Ac (Hb _ dp vp (p) (f) ds (A.map fun s=>s.getD 0 0) (hp.ext (Am<|AC dp) gk) _hf (RN.of_fr1 ap fun b hb=>absurd hb z2) hok hz oM (by rw[zg];exact hl) (by exact E8 hsA)) ?_
  rintro uq si ⟨i90,fs,fx,fe,fr,rc,tc,ry,rfl,c4,d8,ox,ji,d9,jj⟩
  refine⟨_,rfl,c4,?_⟩
  have jk:=c4.size
  have gm:=gk.trans c4
  have gn:=gl.ext c4
  have bn:=ap.ext (o1) c4
  have dt:=gj.ext c4
  have oy:H2 p m f.toNat A=ry:=KJ hm.1 rs oM (E8 hsA) (EZ hsA) LN d8
  have jl:=AB.refl si
  refine Af 1 Z<|AI (vs:=[.agg #[zI i90,fs,fx,fe],zI ry]) (.agg #[zI i90,fs,fx,fe]) Z Z Ac<|AI (vs:=[.agg #[zI i90,fs,fx,fe],zI ry]) (zI ry) Z Z Ac (BR (vs:=[zI i90,fs,fx,fe]) FK Z Z (fun u hu=>by rcases ze.1 hu with rfl|hu;exact⟨rfl,rfl⟩;exact ji u hu) dt Z Z Ac fun rg cq nk du=>?_)
  replace du:BX rg.heap w2.heap.size [zI i90,fs,fx,fe]:=du
  have dv:AB w rg:=cq.below gm (fun _ h=>zE h) gm.size
  have jm:si.heap.size≤rg.heap.size:=cq.size
  have jn:=gn.chg cq (zB ·)
  have jo:=bn.chg (o1) cq fun _ h=>zA h
  have da:Az [w2.heap.size] si rg:=(Az.of_ext _ jl).trans cq
  refine Ae 1 Z<|A0<|qS [0,0] Z<|Af 1 Z ?_
  by_cases jp:ry≠((0:Nat):Int)
  ·exact B4 true Z Z (A7 jp) Ac<|Ai<|Ag Z<|qS [0,0,0,0] Z<|Ae 4 Z<|A3<|Ap<|Ah [6,7,8] Z (.tuple #[zN,zN,zI ry]) Z ⟨_,_,_,rfl,dv,oM,oM,(fun h9=>absurd h9 oM)⟩
  refine B4 false Z Z (A8 jp) Ac<|Ai<|Aj Z<|A4<|A0<|AW _ [1,0,0,3,3,0,0,0,0,0] mixed (by kernel_rfl) ?_
  have ao:ry=0:=by omega
  obtain⟨oi,hTB,oj,hxl,hEn,io,ip,iq⟩:=jj ao
  obtain⟨hTI,hEv⟩:=KK hm.1 rs oM (E8 hsA) (EZ hsA) LN d8 ao
  have hnz:=hTI.nz
  have hcl:=hTI.cl
  have bj:=d8
  rw[ao]at bj
  have hTl:rc.code.length≤4000:=by have:=hTB.2.1;omega
  have cy:RT rg.heap.size (EQ 4 RM) rg.heap fs rc.code:=RN.rt (Am AT) (RN.chg (Am AT) (RG.rnG (g:=w2.heap.size) (Am AT) io oM) da)
  have cz:RT rg.heap.size (EQ 2 Tl) rg.heap fx rc.grd:=RN.rt (Am B1) (RN.chg (Am B1) (RG.rnG (g:=w2.heap.size) (Am B1) ip oM) da)
  have d0:RT rg.heap.size (B3 rI) rg.heap fe fr:=RN.rt g1 (RN.chg g1 (RG.rnG (g:=w2.heap.size) g1 iq oM) da)
  have hoo:=IL hm.1 ly hsA
  have hom:((E1 A:Nat):Int).toNat+1=m:=by omega
  have hSR:=hTI.regs
  have ok:0<rc.code.length:=by have:=hTI.outs hEn 0 oM;omega
  have hOu:=hTI.outs hEn
  have hAd:=fun ws=>hTI.adj (ws:=ws) hEn
  refine AZ (p:=zP w2.heap.size) (.inl Z) [zI i90,fs,fx,fe] FK Z (fun ru bk=>LD.of_box<|BX.ext (w:=rg.drew) du bk) Z Ac<|Af 2 Z<|As 172 [] [] [vA] Z Z U1 Ac (EM _ vA (A) (hA.ext g2 dv.drew) hqA (by exact fun h=>ii 0 h)) ?_
  rintro ur ut ⟨rfl,am⟩
  refine⟨_,rfl,am,?_⟩
  replace am:=am.of_drew
  have jq:=am.size
  have go:=dv.trans am
  have cd:=jn.ext am
  have ce:=jo.ext (o1) am
  have dw:=du.ext am
  have jr:=cy.ext (Am AT) am
  have js:=cz.ext (Am B1) am
  have jt:=d0.ext g1 am
  refine As 109 [] [] [.agg #[zI i90,fs,fx,fe],vA,zI ((E1 A:Nat):Int)] Z Z Yo Ac (Dz _ (i90) fs fx fe (rc) (fr) vA (A) ((E1 A:Nat):Int) d9 jr.rn js.rn jt.rn (hA.ext g2 go) hqA (by unfold E1;omega) oM (by rw[hom];exact hsA) I9 hTl) ?_
  rintro uu sg ⟨rq,rz,rfl,b2,e8,ju⟩
  refine⟨_,rfl,b2,?_⟩
  have jv:=b2.size
  have jw:=go.trans b2
  have bf:=cd.ext b2
  have cf:=ce.ext (o1) b2
  have cg:=dw.ext b2
  have jx:=jr.ext (Am AT) b2
  have jy:=js.ext (Am B1) b2
  have jz:=jt.ext g1 b2
  have oz:rz=0∨rz=6:=by unfold aO at e8;omega
  have hcz:rz=0:=by rcases e8 with h9|h9;exact h9.1;(have h8:=h9.2;rw[hom]at h8;exact absurd hnz h8)
  obtain⟨bl,hrvc⟩:=ju hcz
  rw[hom]at bl
  have hrvt:=bl.rt g2
  refine Af 1 Z<|AI (vs:=[rq,zI rz]) rq Z Z Ac<|AI (vs:=[rq,zI rz]) (zI rz) Z Z Ac<|Ae 2 Z<|A0<|qS [0,0] Z<|Af 1 Z ?_
  by_cases e9:rz≠((0:Nat):Int)
  ·exact absurd e9 oM
  refine B4 false Z Z (A8 e9) Ac<|Ai<|Aj Z<|A4<|qS [3,0] Z ?_
  obtain⟨BG,hBG⟩:∃b:Nat,b=sg.heap.size:=⟨_,rfl⟩
  have hwG:w.heap.size≤BG:=by omega
  have nl:sg.heap.size≤BG:=by omega
  have nm:rg.heap.size≤BG:=by omega
  have p0:w.heap.size<BG:=by have:=BX.lt bf;omega
  have p1:w2.heap.size<BG:=by have:=BX.lt cg;omega
  refine BS rV Bc Ds DX Ac fun sj td a3 k0 db=>?_
  have gp:=a3.size
  have ea:=jw.trans a3
  have dc:=bf.ext a3
  have dd:=cf.ext (o1) a3
  have bo:=cg.ext a3
  have p2:=jx.ext (Am AT) a3
  have p3:=jy.ext (Am B1) a3
  have k1:=jz.ext g1 a3
  have p4:=hrvt.ext g2 a3
  obtain⟨p5,te,p6⟩:=H4.nil (E:=Io (B3 rI)) (S:=[]) (by rw[← hBG]at db;exact db)
  refine Ae 1 Z<|A0<|qS [0,2,0,0] Z<|Aq (p:=zP w2.heap.size) 3 Gz Z Z Ac<|Al (p:=AA (zP w2.heap.size) 3) (.inr Z) fe B7 Z (bo.ldp (i:=3) sM) Ac<|AN (v:=fe) Bm Z k1.slL Ac<|Ae 1 Z<|A5 ?_
  refine AQ (S:=Nat×Value) (fun⟨k,vo⟩=>([(12,vo),(40,zI (k:Int)),(9,zP w2.heap.size),(11,rq),(39,zI (fr.length:Int))])) (fun⟨k,vo⟩ W=>AB w W∧BX W.heap w2.heap.size [zI i90,fs,fx,fe]∧k≤fr.length∧w.heap.size≤BG∧BG≤W.heap.size∧(∃us F,H4 (Io<|B3 rI) 30 [] BG W.heap vo (HG m rc fr A k) us F)∧RT rg.heap.size (EQ 4 RM) W.heap fs rc.code∧RT rg.heap.size (EQ 2 Tl) W.heap fx rc.grd∧RT rg.heap.size (B3 rI) W.heap fe fr∧rg.heap.size≤W.heap.size∧RT sg.heap.size (B3<|B3 rI) W.heap rq (Bh m A rc.code)∧sg.heap.size≤W.heap.size) (fun⟨k,vo⟩=>fr.length-k) (0,sj) ⟨rfl,rfl,rfl,rfl,rfl,trivial⟩ ⟨ea,bo,oM,oM,oM,(by exact⟨_,_,by assumption⟩),CH,CH,CH,oM,CH,oM⟩ ?_
  clear lz m8 ij g8 id an e4 ik il nj d7 jh gk ap c4 jk gm bn nk cq dv jm jn jo am jq go cd ce b2 jv jw bf cf db k0 a3 gp ea dc dd
  rintro⟨k,vo⟩ ρ115 rk ⟨de,a1,m2,m3,m4,hbldg,hta,htb,htc,hNR,c5,nn⟩
  have no:w.heap.size≤rk.heap.size:=de.size
  have p7:=a1.lt
  obtain⟨p8,s7,bg⟩:=hbldg
  have hFlg:∀b∈s7,b<rk.heap.size:=bg.lt
  refine qS [0] Z ?_
  by_cases eb:(k:Int)<(fr.length:Int)
  ·refine Ay true Z Z (A7 eb) Ac<|Ai<|A0<|Ag Z<|A4<|A0<|A5<|qS [0,0] Z<|Ae 2 Z<|AW _ [0,1,1,0,0,1,0,0,3,3,3,3,3,4,0] mixed (by kernel_rfl)<|Af 1 Z<|AZ (p:=zP w2.heap.size) (.inl Z) [zI i90,fs,fx,fe] FK Z (fun ru bk=>LD.of_box<|BX.ext (w:=rk.drew) a1 bk) Z Ac<|AZ (p:=zP w2.heap.size) (.inl Z) [zI i90,fs,fx,fe] FK Z (fun ru bk=>LD.of_box<|BX.ext (w:=rk.drew) a1 bk) Z Ac<|Af 1 Z<|Aq (p:=zP w2.heap.size) 3 Gz Z Z Ac ?_
   refine Al (p:=AA (zP w2.heap.size) 3) (.inl Z) fe B7 Z (a1.ldp (i:=3) sM) Ac<|AN (v:=fe) Bm Z htc.slL Ac<|Af 1 Z (Bs (u:=zI (k:Int)) (B:=rk.heap.size) AS Bm BM Z Z (Mf rk.heap.size rk.heap.size _ _ oM) (A9 _) Ac fun sk tf a4 p9 k2=>?_)
   replace a4:=a4.of_drew
   have np:=a4.size
   have k3:=de.trans a4
   have bp:=a1.ext a4
   have k4:=c5.ext g2 a4
   have k5:=hta.ext (Am AT) a4
   have k6:=htb.ext (Am B1) a4
   have k7:=htc.ext g1 a4
   have k8:=bg.ext O5 a4
   refine As 182 [] [] [zI (fr.length:Int),sk] Z Z Yy Ac (Q9 _ (fr.length) _ _ sD k2.rd1 oM (by intro j hj;rw[zd]at hj;obtain rfl:j=0:=oM;exact⟨Int.natCast_nonneg k,(by show(k:Int)<_;omega)⟩)) ?_
   rintro tg th ⟨df,rfl,ac,dx⟩
   refine⟨_,rfl,ac,?_⟩
   have nq:=ac.size
   have k9:=k3.trans ac
   have bq:=bp.ext ac
   have ec:=k4.ext g2 ac
   have ed:=k5.ext (Am AT) ac
   have ee:=k6.ext (Am B1) ac
   have ef:=k7.ext g1 ac
   have ka:=k8.ext O5 ac
   refine As 184 [] [] [.agg #[zI i90,fs,fx,fe],rq,df] Z Z Yz Ac (DN _ m A.length [] (i90) fs fx fe (rc) (fr) rq (Bh m A rc.code) df (Gw fr.length ([(k:Int)]) ([(k:Int)]).length) (fun b hb=>absurd hb z2) d9 ed.rn ee.rn ef.rn ec.rn hrvc dx.rd1 hm hSR (by rw[BV]) hTl (by rw[IK];omega) hOu (by exact Hx _ _ _) I9) ?_
   rintro ti sl ⟨s8,rfl,ad,eg,gq⟩
   refine⟨_,rfl,ad,?_⟩
   have nr:=ad.size
   have kb:=k9.trans ad
   have br:=bq.ext ad
   have kc:=ec.ext g2 ad
   have eh:=ed.ext (Am AT) ad
   have ei:=ee.ext (Am B1) ad
   have ej:=ef.ext g1 ad
   have kd:=ka.ext O5 ad
   refine As 107 [] [] [.agg #[zI i90,fs,fx,fe],s8] Z Z Yn Ac (DO _ m A.length s7 (i90) fs fx fe (rc) (fr) s8 (M5 rc.code (Bh m A rc.code) fr<|Gw fr.length [(k:Int)] 1) (fun b hb=>(by have:=hFlg b hb;omega:b<sl.heap.size)) d9 eh.rn ei.rn ej.rn eg gq hm oM (by exact hAd _) (by rw[Nv,BV];omega) hTl I9) ?_
   rintro tj s0 ⟨s9,rfl,a5,ek,gr⟩
   refine⟨_,rfl,a5,?_⟩
   have ns:=a5.size
   have ke:=kb.trans a5
   have bs:=br.ext a5
   have kf:=kc.ext g2 a5
   have kg:=eh.ext (Am AT) a5
   have kh:=ei.ext (Am B1) a5
   have ki:=ej.ext g1 a5
   have kj:=eg.ext g2 a5
   have kk:=kd.ext O5 a5
   refine Bs (u:=s9) (B:=s0.heap.size) Bc Ds DX Z Z (LR s0.heap.size s0.heap.size _<|ek.one1 g2) (A9 _) Ac fun sn so a6 pa kl=>?_
   have nt:=a6.size
   have el:=ke.trans a6
   have bt:=bs.ext a6
   have km:=kf.ext g2 a6
   have kn:=kg.ext (Am AT) a6
   have ko:=kh.ext (Am B1) a6
   have kp:=ki.ext g1 a6
   have pb:=kj.ext g2 a6
   have kq:=ek.ext g2 a6
   have aq:=kk.ext O5 a6
   refine My O5 (v:=vo) (a:=sn) (u:=s9) Ds DX Z Z Z aq oM kl (RN.mk2 (by rw[zl];exact kq) gr) sD Sz Ac ?_
   rintro sp sa G152 ar b3 ⟨pc,tk,pd⟩
   have nu:so.heap.size≤sa.heap.size:=ar.size
   have kr:AB w sa:=ar.below el (fun c hc=>Aa hwG (aq.low c (b3 c hc))) el.size
   have ks:=bt.chg ar fun hm=>zH<|aq.low _ (b3 _ hm)
   have pe:=km.chg g2 ar fun b hb=>zH<|aq.low _ (b3 _ hb)
   have pf:=kn.chg (Am AT) ar fun b hb=>zH<|aq.low _ (b3 _ hb)
   have pg:=ko.chg (Am B1) ar fun b hb=>zH<|aq.low _ (b3 _ hb)
   have ph:=kp.chg g1 ar fun b hb=>zH<|aq.low _ (b3 _ hb)
   exact Ae 1 Z<|Ad _ [0,0] Z<|AG ((k+1:Nat):Int) Z Z (Bd oM sD) Ac<|Ae 1 Z ⟨(k+1,sp),_,rfl,zR,⟨kr,ks,oM,oM,oM,SA,CH,CH,CH,oM,CH,oM⟩,zD⟩
  refine Ay false Z Z (A8 eb) Ac<|Ai<|A0<|Aj Z<|A6<|Au<|Au<|An<|qS [0,0,2,3,0,0,0,0] Z ?_
  have gs:=bg.done fun b hb=>absurd hb z2
  have gt:=bg.cap
  refine Af 1 Z<|Aq (p:=zP w2.heap.size) 3 Gz Z Z Ac<|Al (p:=AA (zP w2.heap.size) 3) (.inr Z) fe B7 Z (a1.ldp (i:=3) sM) Ac<|As 111 [] [] [rq,fe] Z Z Yp Ac (Dp _ rq (Bh m A rc.code) fe (fr) c5.rn hrvc htc.rd SB oM) ?_
  rintro tl tn ⟨sq,rfl,ai,kt,gu⟩
  refine⟨_,rfl,ai,?_⟩
  have nv:=ai.size
  have ku:=de.trans ai
  have pi:=c5.ext g2 ai
  have kv:=gs.ext nU ai
  have pj:=hta.ext (Am AT) ai
  have pk:=htb.ext (Am B1) ai
  have pl:=htc.ext g1 ai
  exact Ae 4 Z<|A3<|Ah [6,7,8] Z (.tuple #[sq,vo,zI ((0:Nat):Int)]) Z ⟨_,_,_,rfl,ku,(by show(0:Int)=_;omega),SD,(fun _=>⟨(by rw[hEv];exact kt),gu,rc,fr,tc,bj,hxl,(by have h9:=kv;rw[show k=fr.length from by omega]at h9;exact h9),gt⟩)⟩
 refine Jx.ZL Z ?_
 have pm:=ic.lt
 have nw:w1.drew.heap.size=w1.heap.size:=rfl
 refine Br (z:=.agg #[zI 0,zN,zN,zN]) bK Ac fun sr b4 kw dg=>?_
 replace b4:=b4.of_drew
 have gv:=b4.size
 have dh:=id.trans b4
 have dy:=ic.ext b4
 replace dg:BX sr.heap w1.drew.heap.size [zI 0,zN,zN,zN]:=dg
 refine As 106 [] [] [vA] Z Z dP Ac (JE _ _ _ (hA.ext g2 dh).rd oM ii) ?_
 rintro to tp ⟨di,rfl,b5,bh⟩
 refine⟨_,rfl,b5,?_⟩
 have gw:=b5.size
 have dj:=dh.trans b5
 have dz:=dy.ext b5
 have cr:=dg.ext b5
 refine As 29 [] [] [.agg #[vp],zI f,di] Z Z iG Ac (Hb _ dp vp (p) (f) di (A.map fun s=>s.getD 0 0) (hp.ext (Am<|AC dp) dj) _hf (RN.of_fr1 bh fun b hb=>absurd hb z2) hok hz oM (by rw[zg];exact hl) (by exact E8 hsA)) ?_
 rintro tq s2 ⟨i176,f3,f4,f1,f2,r3,ss,rl,rfl,au,c6,nx,gx,c7,gy⟩
 refine⟨_,rfl,au,?_⟩
 have gz:=au.size
 have dk:=dj.trans au
 have e0:=dz.ext au
 have ct:=cr.ext au
 have aj:=bh.ext (o1) au
 have ny:H2 p m f.toNat A=rl:=KJ hm.1 rs oM (E8 hsA) (EZ hsA) LN c6
 have i0:=AB.refl s2
 refine Af 1 Z<|AI (vs:=[.agg #[zI i176,f3,f4,f1],zI rl]) (.agg #[zI i176,f3,f4,f1]) Z Z Ac<|AI (vs:=[.agg #[zI i176,f3,f4,f1],zI rl]) (zI rl) Z Z Ac (BR (vs:=[zI i176,f3,f4,f1]) FK Z Z (fun u hu=>by rcases ze.1 hu with rfl|hu;exact⟨rfl,rfl⟩;exact gx u hu) ct Z Z Ac fun r4 b6 kx ch=>?_)
 replace ch:BX r4.heap w1.drew.heap.size [zI i176,f3,f4,f1]:=ch
 have ci:AB w r4:=b6.below dk (fun _ h=>zE h) dk.size
 have i1:s2.heap.size≤r4.heap.size:=b6.size
 have em:=e0.chg b6 (zB ·)
 have en:=aj.chg (o1) b6 fun _ h=>zA h
 have c8:Az [w1.drew.heap.size] s2 r4:=(Az.of_ext _ i0).trans b6
 refine Ae 1 Z<|A0<|qS [0,0] Z<|Af 1 Z ?_
 by_cases eo:rl≠((0:Nat):Int)
 ·exact B4 true Z Z (A7 eo) Ac<|Ai<|Ag Z<|qS [0,0,0,0] Z<|Ae 4 Z<|A3<|Ap<|Ah [6,7,8] Z (.tuple #[zN,zN,zI rl]) Z ⟨_,_,_,rfl,ci,oM,oM,(fun h9=>absurd h9 oM)⟩
 refine B4 false Z Z (A8 eo) Ac<|Ai<|Aj Z<|A4<|A0<|AW _ [1,0,0,3,3,0,0,0,0,0] mixed (by kernel_rfl) ?_
 have ao:rl=0:=by omega
 obtain⟨oi,hTB,oj,hxl,hEn,io,ip,iq⟩:=gy ao
 obtain⟨hTI,hEv⟩:=KK hm.1 rs oM (E8 hsA) (EZ hsA) LN c6 ao
 have hnz:=hTI.nz
 have hcl:=hTI.cl
 have bj:=c6
 rw[ao]at bj
 have hTl:r3.code.length≤4000:=by have:=hTB.2.1;omega
 have cy:RT r4.heap.size (EQ 4 RM) r4.heap f3 r3.code:=RN.rt (Am AT) (RN.chg (Am AT) (RG.rnG (g:=w1.drew.heap.size) (Am AT) io oM) c8)
 have cz:RT r4.heap.size (EQ 2 Tl) r4.heap f4 r3.grd:=RN.rt (Am B1) (RN.chg (Am B1) (RG.rnG (g:=w1.drew.heap.size) (Am B1) ip oM) c8)
 have d0:RT r4.heap.size (B3 rI) r4.heap f1 f2:=RN.rt g1 (RN.chg g1 (RG.rnG (g:=w1.drew.heap.size) g1 iq oM) c8)
 have hoo:=IL hm.1 ly hsA
 have hom:((E1 A:Nat):Int).toNat+1=m:=by omega
 have hSR:=hTI.regs
 have ok:0<r3.code.length:=by have:=hTI.outs hEn 0 oM;omega
 have hOu:=hTI.outs hEn
 have hAd:=fun ws=>hTI.adj (ws:=ws) hEn
 refine AZ (p:=zP w1.drew.heap.size) (.inl Z) [zI i176,f3,f4,f1] FK Z (fun ru bk=>LD.of_box<|BX.ext (w:=r4.drew) ch bk) Z Ac<|Af 2 Z<|As 172 [] [] [vA] Z Z U1 Ac (EM _ vA (A) (hA.ext g2 ci.drew) hqA (by exact fun h=>ii 0 h)) ?_
 rintro tr ts ⟨rfl,a0⟩
 refine⟨_,rfl,a0,?_⟩
 replace a0:=a0.of_drew
 have i2:=a0.size
 have dl:=ci.trans a0
 have b7:=em.ext a0
 have cu:=ch.ext a0
 have b8:=en.ext (o1) a0
 have ep:=cy.ext (Am AT) a0
 have eq:=cz.ext (Am B1) a0
 have er:=d0.ext g1 a0
 refine As 109 [] [] [.agg #[zI i176,f3,f4,f1],vA,zI ((E1 A:Nat):Int)] Z Z Yo Ac (Dz _ (i176) f3 f4 f1 (r3) (f2) vA (A) ((E1 A:Nat):Int) c7 ep.rn eq.rn er.rn (hA.ext g2 dl) hqA (by unfold E1;omega) oM (by rw[hom];exact hsA) I9 hTl) ?_
 rintro tt rr ⟨r6,rm,rfl,a7,dm,i4⟩
 refine⟨_,rfl,a7,?_⟩
 have i5:=a7.size
 have es:=dl.trans a7
 have ah:=b7.ext a7
 have b9:=cu.ext a7
 have ba:=b8.ext (o1) a7
 have ky:=ep.ext (Am AT) a7
 have kz:=eq.ext (Am B1) a7
 have l0:=er.ext g1 a7
 have o0:rm=0∨rm=6:=by unfold aO at dm;omega
 have hcz:rm=0:=by rcases dm with h9|h9;exact h9.1;(have h8:=h9.2;rw[hom]at h8;exact absurd hnz h8)
 obtain⟨bl,hrvc⟩:=i4 hcz
 rw[hom]at bl
 have hrvt:=bl.rt g2
 refine Af 1 Z<|AI (vs:=[r6,zI rm]) r6 Z Z Ac<|AI (vs:=[r6,zI rm]) (zI rm) Z Z Ac<|Ae 2 Z<|A0<|qS [0,0] Z<|Af 1 Z ?_
 by_cases et:rm≠((0:Nat):Int)
 ·exact absurd et oM
 refine B4 false Z Z (A8 et) Ac<|Ai<|Aj Z<|A4<|qS [3,0] Z ?_
 obtain⟨BG,hBG⟩:∃b:Nat,b=rr.heap.size:=⟨_,rfl⟩
 have hwG:w.heap.size≤BG:=by omega
 have o2:r4.heap.size≤BG:=by omega
 have o3:rr.heap.size≤BG:=by omega
 have pn:w.heap.size<BG:=by have:=BX.lt ah;omega
 have po:w1.drew.heap.size<BG:=by have:=BX.lt b9;omega
 refine BS rV Bc Ds DX Ac fun st tu a8 l1 dn=>?_
 have i6:=a8.size
 have eu:=es.trans a8
 have cv:=ah.ext a8
 have bb:=b9.ext a8
 have cw:=ba.ext (o1) a8
 have pp:=ky.ext (Am AT) a8
 have pq:=kz.ext (Am B1) a8
 have l2:=l0.ext g1 a8
 have pr:=hrvt.ext g2 a8
 obtain⟨ps,tw,pt⟩:=H4.nil (E:=Io (B3 rI)) (S:=[]) (by rw[← hBG]at dn;exact dn)
 refine Ae 1 Z<|A0<|qS [0,2,0,0] Z<|Aq (p:=zP w1.drew.heap.size) 3 Gz Z Z Ac<|Al (p:=AA (zP w1.drew.heap.size) 3) (.inr Z) f1 B7 Z (bb.ldp (i:=3) sM) Ac<|AN (v:=f1) Bm Z l2.slL Ac<|Ae 1 Z<|A5 ?_
 refine AQ (S:=Nat×Value) (fun⟨k,vo⟩=>([(12,vo),(40,zI (k:Int)),(9,zP w1.drew.heap.size),(11,r6),(39,zI (f2.length:Int))])) (fun⟨k,vo⟩ W=>AB w W∧BX W.heap w1.drew.heap.size [zI i176,f3,f4,f1]∧k≤f2.length∧w.heap.size≤BG∧BG≤W.heap.size∧(∃us F,H4 (Io<|B3 rI) 30 [] BG W.heap vo (HG m r3 f2 A k) us F)∧RT r4.heap.size (EQ 4 RM) W.heap f3 r3.code∧RT r4.heap.size (EQ 2 Tl) W.heap f4 r3.grd∧RT r4.heap.size (B3 rI) W.heap f1 f2∧r4.heap.size≤W.heap.size∧RT rr.heap.size (B3<|B3 rI) W.heap r6 (Bh m A r3.code)∧rr.heap.size≤W.heap.size) (fun⟨k,vo⟩=>f2.length-k) (0,st) ⟨rfl,rfl,rfl,rfl,rfl,trivial⟩ ⟨eu,bb,oM,oM,oM,(by exact⟨_,_,by assumption⟩),CH,CH,CH,oM,CH,oM⟩ ?_
 clear lz m8 ij g8 id kw b4 gv dh bh b5 gw dj au gz dk aj kx b6 ci i1 em en a0 i2 dl b7 b8 a7 i5 es ah ba dn l1 a8 i6 eu cv cw
 rintro⟨k,vo⟩ ρ201 ro ⟨dq,a2,m5,m6,m7,hbldg,hta,htb,htc,hNR,c9,o4⟩
 have o5:w.heap.size≤ro.heap.size:=dq.size
 have pu:=a2.lt
 obtain⟨pv,sb,bi⟩:=hbldg
 have hFlg:∀b∈sb,b<ro.heap.size:=bi.lt
 refine qS [0] Z ?_
 by_cases ev:(k:Int)<(f2.length:Int)
 ·refine Ay true Z Z (A7 ev) Ac<|Ai<|A0<|Ag Z<|A4<|A0<|A5<|qS [0,0] Z<|Ae 2 Z<|AW _ [0,1,1,0,0,1,0,0,3,3,3,3,3,4,0] mixed (by kernel_rfl)<|Af 1 Z<|AZ (p:=zP w1.drew.heap.size) (.inl Z) [zI i176,f3,f4,f1] FK Z (fun ru bk=>LD.of_box<|BX.ext (w:=ro.drew) a2 bk) Z Ac<|AZ (p:=zP w1.drew.heap.size) (.inl Z) [zI i176,f3,f4,f1] FK Z (fun ru bk=>LD.of_box<|BX.ext (w:=ro.drew) a2 bk) Z Ac<|Af 1 Z ?_
  refine Aq (p:=zP w1.drew.heap.size) 3 Gz Z Z Ac<|Al (p:=AA (zP w1.drew.heap.size) 3) (.inl Z) f1 B7 Z (a2.ldp (i:=3) sM) Ac<|AN (v:=f1) Bm Z htc.slL Ac<|Af 1 Z (Bs (u:=zI (k:Int)) (B:=ro.heap.size) AS Bm BM Z Z (Mf ro.heap.size ro.heap.size _ _ oM) (A9 _) Ac fun su tx a9 pw l3=>?_)
  replace a9:=a9.of_drew
  have o6:=a9.size
  have l4:=dq.trans a9
  have bu:=a2.ext a9
  have l5:=c9.ext g2 a9
  have l6:=hta.ext (Am AT) a9
  have l7:=htb.ext (Am B1) a9
  have l8:=htc.ext g1 a9
  have l9:=bi.ext O5 a9
  refine As 182 [] [] [zI (f2.length:Int),su] Z Z Yy Ac (Q9 _ (f2.length) _ _ sD l3.rd1 oM (by intro j hj;rw[zd]at hj;obtain rfl:j=0:=oM;exact⟨Int.natCast_nonneg k,(by show(k:Int)<_;omega)⟩)) ?_
  rintro ty tz ⟨dr,rfl,ae,e1⟩
  refine⟨_,rfl,ae,?_⟩
  have o7:=ae.size
  have la:=l4.trans ae
  have bv:=bu.ext ae
  have ew:=l5.ext g2 ae
  have ex:=l6.ext (Am AT) ae
  have ey:=l7.ext (Am B1) ae
  have ez:=l8.ext g1 ae
  have lb:=l9.ext O5 ae
  refine As 184 [] [] [.agg #[zI i176,f3,f4,f1],r6,dr] Z Z Yz Ac (DN _ m A.length [] (i176) f3 f4 f1 (r3) (f2) r6 (Bh m A r3.code) dr (Gw f2.length ([(k:Int)]) ([(k:Int)]).length) (fun b hb=>absurd hb z2) c7 ex.rn ey.rn ez.rn ew.rn hrvc e1.rd1 hm hSR (by rw[BV]) hTl (by rw[IK];omega) hOu (by exact Hx _ _ _) I9) ?_
  rintro u0 sv ⟨sc,rfl,af,g0,i7⟩
  refine⟨_,rfl,af,?_⟩
  have o8:=af.size
  have lc:=la.trans af
  have bw:=bv.ext af
  have ld:=ew.ext g2 af
  have g3:=ex.ext (Am AT) af
  have g4:=ey.ext (Am B1) af
  have g5:=ez.ext g1 af
  have le:=lb.ext O5 af
  refine As 107 [] [] [.agg #[zI i176,f3,f4,f1],sc] Z Z Yn Ac (DO _ m A.length sb (i176) f3 f4 f1 (r3) (f2) sc (M5 r3.code (Bh m A r3.code) f2<|Gw f2.length [(k:Int)] 1) (fun b hb=>(by have:=hFlg b hb;omega:b<sv.heap.size)) c7 g3.rn g4.rn g5.rn g0 i7 hm oM (by exact hAd _) (by rw[Nv,BV];omega) hTl I9) ?_
  rintro u1 s4 ⟨sd,rfl,aa,g6,i8⟩
  refine⟨_,rfl,aa,?_⟩
  have o9:=aa.size
  have lf:=lc.trans aa
  have bx:=bw.ext aa
  have lg:=ld.ext g2 aa
  have lh:=g3.ext (Am AT) aa
  have li:=g4.ext (Am B1) aa
  have lj:=g5.ext g1 aa
  have lk:=g0.ext g2 aa
  have ll:=le.ext O5 aa
  refine Bs (u:=sd) (B:=s4.heap.size) Bc Ds DX Z Z (LR s4.heap.size s4.heap.size _<|g6.one1 g2) (A9 _) Ac fun sw sx ab px lm=>?_
  have oa:=ab.size
  have g7:=lf.trans ab
  have bz:=bx.ext ab
  have ln:=lg.ext g2 ab
  have lo:=lh.ext (Am AT) ab
  have lp:=li.ext (Am B1) ab
  have lq:=lj.ext g1 ab
  have py:=lk.ext g2 ab
  have lr:=g6.ext g2 ab
  have av:=ll.ext O5 ab
  refine My O5 (v:=vo) (a:=sw) (u:=sd) Ds DX Z Z Z av oM lm (RN.mk2 (by rw[zl];exact lr) i8) sD Sz Ac ?_
  rintro sy se G238 aw bc ⟨pz,u6,q0⟩
  have ob:sx.heap.size≤se.heap.size:=aw.size
  have ls:AB w se:=aw.below g7 (fun c hc=>Aa hwG (av.low c (bc c hc))) g7.size
  have lu:=bz.chg aw fun hm=>zH<|av.low _ (bc _ hm)
  have q1:=ln.chg g2 aw fun b hb=>zH<|av.low _ (bc _ hb)
  have q2:=lo.chg (Am AT) aw fun b hb=>zH<|av.low _ (bc _ hb)
  have q3:=lp.chg (Am B1) aw fun b hb=>zH<|av.low _ (bc _ hb)
  have q4:=lq.chg g1 aw fun b hb=>zH<|av.low _ (bc _ hb)
  exact Ae 1 Z<|Ad _ [0,0] Z<|AG ((k+1:Nat):Int) Z Z (Bd oM sD) Ac<|Ae 1 Z ⟨(k+1,sy),_,rfl,zR,⟨ls,lu,oM,oM,oM,SA,CH,CH,CH,oM,CH,oM⟩,zD⟩
 refine Ay false Z Z (A8 ev) Ac<|Ai<|A0<|Aj Z<|A6<|Au<|Au<|An<|qS [0,0,2,3,0,0,0,0] Z ?_
 have i9:=bi.done fun b hb=>absurd hb z2
 have ia:=bi.cap
 refine Af 1 Z<|Aq (p:=zP w1.drew.heap.size) 3 Gz Z Z Ac<|Al (p:=AA (zP w1.drew.heap.size) 3) (.inr Z) f1 B7 Z (a2.ldp (i:=3) sM) Ac<|As 111 [] [] [r6,f1] Z Z Yp Ac (Dp _ r6 (Bh m A r3.code) f1 (f2) c9.rn hrvc htc.rd SB oM) ?_
 rintro u7 u8 ⟨sz,rfl,ak,lv,ib⟩
 refine⟨_,rfl,ak,?_⟩
 have oc:=ak.size
 have lw:=dq.trans ak
 have q5:=c9.ext g2 ak
 have lx:=i9.ext nU ak
 have q6:=hta.ext (Am AT) ak
 have q7:=htb.ext (Am B1) ak
 have q8:=htc.ext g1 ak
 exact Ae 4 Z<|A3<|Ah [6,7,8] Z (.tuple #[sz,vo,zI ((0:Nat):Int)]) Z ⟨_,_,_,rfl,lw,(by show(0:Int)=_;omega),SD,(fun _=>⟨(by rw[hEv];exact lv),ib,r3,f2,ss,bj,hxl,(by have h9:=lx;rw[show k=f2.length from by omega]at h9;exact h9),ia⟩)⟩
theorem iX (w:World) (va:Value) (a:List (Sr)) (q:Nat) (qf qc:List Value) (p:Sr→Bool) (ha:Rd (B3 (B3 rI)) w.heap va a) (hcf_q:((Tryz.prog.funcs[q]?).map fun fn=>(fn.name != "runtime.NumGoroutine") && fn.body.isSome) = some true) (hp:∀ (u:Value) (k:Nat) w1,k < a.length→Rd (B3 rI) w1.heap u (a.getD k [])→AB w w1→Calls Tryz.prog q (qf++[u]++qc).toArray w1 (fun e w2=>e = .returned (.bool (p (a.getD k [])))∧AB w1 w2))  :
  Calls Tryz.prog 175 #[va,.func (.func q) qf.toArray qc.toArray] w (fun e w'=>e = .returned (zI (Se p a))∧AB w w'):=by
 refine At [va,.func (.func q) qf.toArray qc.toArray] 19 Tryz.func175 Z Z sM ?_
 have a2:AB w w:=AB.refl w
 have ad:=ha.lenle
 refine qT Z<|A0<|qS [0,0,0] Z<|Af 1 Z<|AN (v:=va) Bn Z ha.isSl Ac<|Ae 1 Z<|A5 ?_
 refine AQ (S:=Nat) (fun k=>([(8,zI ((k :Nat):Int)),(0,va),(1,.func (.func q) qf.toArray qc.toArray),(7,zI ((a.length :Nat):Int))])) (fun k W=>AB w W∧k≤a.length∧(∀ j,j < k→p (a.getD j []) = false)) (fun k=>a.length - k) 0 ⟨rfl,rfl,rfl,rfl,trivial⟩ ⟨a2,sD,(by intro j hj; omega)⟩ ?_
 clear a2
 rintro k ρ1 w1 ⟨a0,a3,hq⟩
 have a8:w.heap.size≤w1.heap.size:=a0.size
 refine qS [0] Z ?_
 by_cases a4:((k :Nat):Int) < ((a.length :Nat):Int)
 ·
  refine Ay true Z Z (A7 a4) Ac<|Ai<|A0<|Ag Z<|A4<|A0<|A5<|qS [0,0] Z<|Ae 2 Z<|qS [0,0,0,0,2,3] Z ?_
  have hka:k < a.length:=by omega
  refine Af 3 Z<|Aw (v:=va) k Bn AU Z Z ha.isSl Z sD Ac ?_
  obtain ⟨a5,a9,a6⟩:=ha.get (k:=k) [] sD
  have aa:=a6.lenle
  refine Al (p:=Ax va k 1) (.inr Z) a5 B7 Z (AR a0 a9) Ac<|As q qf qc _ Z Z hcf_q Ac (hp a5 k w1 oM (a6.ext g1 a0) a0) ?_
  rintro e4 w4 ⟨rfl,a1⟩
  refine ⟨_,rfl,a1,?_⟩
  have ab:=a1.size
  have a7:=a0.trans a1
  cases ac:p (a.getD k [])
  ·
   refine Ai<|Aj Z<|A4<|Ad _ [0,0] Z<|AG ((k + 1 :Nat):Int) Z Z (Bd oM sD) Ac<|Ae 1 Z ?_
   exact ⟨k + 1,_,rfl,zR,⟨a7,sD,(by exact Q5 hq (by assumption))⟩,by first | omega | (dsimp only; omega)⟩
  
  exact Ai<|Ag Z<|qS [0,0] Z<|Ae 2 Z<|A3<|AK<|Ap<|Ap<|AK<|Ap<|Ah [4] Z (zI ((k :Nat):Int)) Z ⟨B5<|Sf [] hq oM (by assumption),a7⟩
 
 exact Ay false Z Z (A8 a4) Ac<|Ai<|A0<|Aj Z<|A6<|Au<|Au<|An<|qT Z<|A3<|Ah [4] Z (zI (-1)) Z ⟨B5<|YK [] hq oM,a0⟩
theorem Za (w:World) (va:Value) (a:List (Sr)) (q:Nat) (qf qc:List Value) (p:Sr→Bool) (ha:Rd (B3 (B3 rI)) w.heap va a) (hcf_q:((Tryz.prog.funcs[q]?).map fun fn=>(fn.name != "runtime.NumGoroutine") && fn.body.isSome) = some true) (hp:∀ (u:Value) (k:Nat) w1,k < a.length→Rd (B3 rI) w1.heap u (a.getD k [])→AB w w1→Calls Tryz.prog q (qf++[u]++qc).toArray w1 (fun e w2=>e = .returned (.bool (p (a.getD k [])))∧AB w1 w2))  :
  Calls Tryz.prog 90 #[va,.func (.func q) qf.toArray qc.toArray] w (fun e w'=>e = .returned (.bool (a.any p))∧AB w w'):=by
 refine At [va,.func (.func q) qf.toArray qc.toArray] 9 Tryz.func90 Z Z sM ?_
 have a0:AB w w:=AB.refl w
 have a4:=ha.lenle
 refine qT Z<|qS [0,0,3,0,0] Z<|Af 2 Z<|As 175 [] [] [va,.func (.func q) qf.toArray qc.toArray] Z Z lR Ac (iX _ _ _ q qf qc p (ha.ext g2 a0) hcf_q fun u k w1 hk hx hw=>hp u k w1 hk hx<|a0.trans hw) ?_
 rintro e1 w1 ⟨rfl,a1⟩
 refine ⟨_,rfl,a1,?_⟩
 have a2:=a1.size
 have a3:=a0.trans a1
 exact FB (decide (((0 :Nat):Int)≤Se p a)) Z Z Z Ac<|Ae 1 Z<|A3<|Ah [4] Z (.bool<|decide (((0 :Nat):Int)≤Se p a)) Z ⟨AF<|YL p a,a3⟩
theorem Zb {p:Prop}(h:p:=by unfold D2 Gp;first|(simp[*];done)|(simp[*];omega)|(simp_all;done)|(simp_all;omega)):p:=h
theorem Jq (w:World)(a:Int)(b:Int)(_ha:BI a)(_hb:BI b)  :
  Calls Tryz.prog 167 #[zI a,zI b] w (fun e w'=>e=.returned (.bool (D2 a b))∧w'=w):=by
 refine At [zI a,zI b] 13 Tryz.func167 Z Z sM ?_
 have a0:w=w:=rfl
 refine qT Z<|qS [0,0,0,0,0,0,0,0,0] Z<|Af 1 Z<|AD 117 [] [] [zI a,zI ((2:Nat):Int),zI ((7:Nat):Int)] Z Z GT Ac (.bool (decide (((2:Nat):Int)≤a) && decide (a≤((7:Nat):Int)))) (fun wq=>BP wq _ _ _ _ha oM oM)<|Af 1 Z ?_
 cases a1:(decide (((2:Nat):Int)≤a) && decide (a≤((7:Nat):Int)))
 ·exact Ae 6 Z<|A3<|Ah [4] Z (.bool false) Z ⟨AF Zb,a0⟩
 exact Af 2 Z<|Cb (a-1) Z Z (Dh (by have h9:=HC (by assumption);omega) (by have h9:=HC (by assumption);omega)) (Ak (e:=7) Z Z Z)<|Av (decide (b=a-1)) Z Z Z (Ak (e:=7) Z Z Z)<|Ae 2 Z<|A3<|Ah [4] Z (.bool<|decide (b=a-1)) Z ⟨AF Zb,a0⟩
theorem GY (w:World)(dp:Nat)(vp:Value)(p:List Fn)(f:Int)(hp:RP [] dp w.heap vp p)(_hf:BI f)(hz:Px p) :
  Calls Tryz.prog 85 #[(.agg #[vp]),zI f] w (fun e w'=>e=.returned (zI (Gg p f D2))∧AB w w'):=by
 refine At [.agg #[vp],zI f] 8 Tryz.func85 Z Z sM ?_
 have a4:AB w w:=AB.refl w
 have aa:=hp.lenle
 unfold maxLen at aa
 refine qS [3,0] Z (C8 (cs:=#[vp]) Z Ac fun w1 a2 a9 a0=>?_)
 have a5:=a2.size
 have a3:=a4.trans a2
 replace a0:BX w1.heap w.heap.size [vp]:=a0
 refine Ae 1 Z<|qS [2,0,3,0] Z<|AZ (p:=zP w.heap.size) (.inr Z) [vp] CL Z (fun ab a6=>LD.of_box<|BX.ext (w:=w1) a0 a6) Z Ac<|Af 1 Z<|As 166 [] [] [.agg #[vp],zI f,.func (.func 167) #[] #[]] Z Z lK Ac (M8 _ dp vp (p) _ 167 [] [] D2 (hp.ext (Am<|AC dp) a3) _hf lL (fun a b w1 ha hb=>Jq w1 a b ha hb) hz) ?_
 rintro e2 w2 ⟨rfl,a1⟩
 refine⟨_,rfl,a1,?_⟩
 have a7:=a1.size
 have a8:=a3.trans a1
 exact Ae 1 Z<|A3<|Ah [4] Z (zI<|Gg p f D2) Z ⟨rfl,a8⟩
theorem Zc {p:Prop}(h:p:=by first|exact B5 (pE oM)|exact B5 (pF oM (GL (by assumption)))|exact B5 (kG oM (ES (by assumption)))):p:=h
theorem IX (w:World)(dp:Nat)(vp:Value)(p:List Fn)(f:Int)(vy:Value)(y:List (Sr))(hp:RP [] dp w.heap vp p)(_hf:BI f)(hy:RN [] (B3 (B3 rI)) w.heap vy y)(hqy:Cj vy)(hz:Px p) :
  Calls Tryz.prog 95 #[(.agg #[vp]),zI f,vy] w (fun e w'=>e=.returned (zI (Nw p f y))∧AB w w'):=by
 refine At [.agg #[vp],zI f,vy] 26 Tryz.func95 Z Z sM ?_
 have ac:AB w w:=AB.refl w
 have am:=hp.lenle
 unfold maxLen at am
 have an:=hy.lenL
 unfold maxLen at an
 refine qS [3,0] Z (C8 (cs:=#[vp]) Z Ac fun w1 a6 aj a2=>?_)
 have ad:=a6.size
 have a7:=ac.trans a6
 replace a2:BX w1.heap w.heap.size [vp]:=a2
 refine Ae 1 Z<|qS [2,0,3,0] Z<|AZ (p:=zP w.heap.size) (.inr Z) [vp] CL Z (fun ao ae=>LD.of_box<|BX.ext (w:=w1) a2 ae) Z Ac<|Af 1 Z<|As 85 [] [] [.agg #[vp],zI f] Z Z kV Ac (GY _ dp vp (p) _ (hp.ext (Am<|AC dp) a7) _hf hz) ?_
 rintro e2 w2 ⟨rfl,a3⟩
 refine⟨_,rfl,a3,?_⟩
 have af:=a3.size
 have a0:=a7.trans a3
 have a1:=a2.ext a3
 refine Ae 1 Z<|A0<|qS [0,0,0,0,0,2,0,0,0,2,0,3,0,0] Z<|Af 1 Z ?_
 by_cases a8:Gg p f D2=((0:Nat):Int)
 ·refine Av true Z Z (A7 a8) Ac<|Af 2 Z ?_
  have ak:=R5 (p:=p) (f:=f) oM
  refine Aq (p:=zP w.heap.size) 0 BQ Z Z (Ak (e:=13) Z Z Z)<|Al (p:=AA (zP w.heap.size) 0) (.inr Z) vp Cr Z (a1.ldp (i:=0) sM) (Ak (e:=13) Z Z Z)<|Af 1 Z<|Aw (v:=vp) ((f).toNat) H6 CM Z Z hp.isSl oM sD (Ak (e:=13) Z Z Z) ?_
  obtain⟨cs4,ag,a9⟩:=hp.get (AC dp) Fn.zero (k:=(f).toNat) sD
  obtain⟨al,rfl,ah⟩:=RF.of ag
  have a4:=ah.rn.lenle
  unfold maxLen at a4
  refine AP (p:=Ax vp ((f).toNat) 3) 1 CG Z (a9 _<|Az.of_ext [] a0) (Ak (e:=13) Z Z Z)<|Al (p:=AA (Ax vp ((f).toNat) 3) 1) (.inr Z) (zI<|(p.getD ((f).toNat) Fn.zero).params) AO Z ((a9 _<|Az.of_ext [] a0).ld (i:=1) (by simp[Dd,FU])) (Ak (e:=13) Z Z Z)<|Cb ((p.getD f.toNat Fn.zero).params-1) Z Z (Dh oM oM) (Ak (e:=13) Z Z Z)<|As 180 [] [] [vy,zI ((p.getD f.toNat Fn.zero).params-1)] Z Z lS (Ak (e:=13) Z Z Z) (NH _ _ _ _ (hy.ext g2 a0).rd oM) ?_
  rintro e5 w5 ⟨rfl,a5⟩
  refine⟨_,rfl,a5,?_⟩
  have ai:=a5.size
  have aa:=a0.trans a5
  refine BH (!(Ln y && decide ((y.length:Int)=((p.getD f.toNat Fn.zero).params-1)))) Z Z (Ak (e:=13) Z Z Z)<|Ae 1 Z ?_
  cases ab:(!(Ln y && decide ((y.length:Int)=((p.getD f.toNat Fn.zero).params-1))))
  ·exact Aj (by first|rfl|exact zW ab)<|A4<|qS [0,0] Z<|Ae 2 Z<|A3<|Ah [6] Z (zI<|Gg p f D2) Z ⟨Zc,aa⟩
  exact Ag (by first|rfl|exact zW ab)<|Ad _ [0] Z<|Ae 1 Z<|qS [0,0] Z<|Ae 2 Z<|A3<|Ah [6] Z (zI ((2:Nat):Int)) Z ⟨Zc,aa⟩
 exact Av false Z Z (A8 a8) Ac<|Ae 12 Z<|Aj Z<|A4<|qS [0,0] Z<|Ae 2 Z<|A3<|Ah [6] Z (zI<|Gg p f D2) Z ⟨Zc,a0⟩
theorem CB (w:World)(dp:Nat)(vp:Value)(p:List Fn)(f:Int)(vy:Value)(y:List (Sr))(hp:RP [] dp w.heap vp p)(_hf:BI f)(hy:RN [] (B3 (B3 rI)) w.heap vy y)(hqy:Cj vy)(hok:KE p=true)(hz:Px p)(hf:0≤f∧f<(p.length:Int))(hl:(y.length:Int)=(p.getD f.toNat Fn.zero).params-1)(hsy:BC (E1 y+1) y)(au:0<y.length∧E1 y≤12) :
  Calls Tryz.prog 88 #[(.agg #[vp]),zI f,vy] w (fun e w'=>∃(v0 v1:Value) (c:Int),e=.returned (.tuple #[v0,v1,zI c])∧AB w w'∧c=H2 p (E1 y+1) f.toNat (Cc y)∧(0≤c∧c≤9)∧(c=0→RN [] (B3 (B3 rI)) w'.heap v0 (CS p (E1 y+1) f.toNat (Cc y))∧Cj v0∧∃T xs s1,AX (KI p f.toNat (BF (Cc y))) (xs,T) s1 0∧xs.length=(p.getD f.toNat Fn.zero).outs.length∧RN [] (B3 (Io (B3 rI))) w'.heap v1 (GS (HG (E1 y+1) T xs (Cc y) xs.length))∧Cj v1)):=by
 refine At [.agg #[vp],zI f,vy] 33 Tryz.func88 Z Z sM ?_
 have b2:AB w w:=AB.refl w
 have aq:=hp.lenle
 unfold maxLen at aq
 have bi:=hy.lenL
 unfold maxLen at bi
 have bm:=(Fu hok).par f.toNat oM
 have hwl:(Cc y).length=y.length+1:=DC
 have b3:=(hsy 0 au.1).1
 have hts:Cc y=(List.replicate (((E1 y:Nat):Int).toNat+1) 0).set 1 1::y:=by unfold Cc PM;rw[b3];rfl
 refine qS [3,0,0,0] Z (C8 (cs:=#[vp]) Z Ac fun w1 av bn ae=>?_)
 have b4:=av.size
 have aw:=b2.trans av
 replace ae:BX w1.heap w.heap.size [vp]:=ae
 refine Ae 3 Z<|qS [0,3,3,3,0,4,0] Z<|Af 1 Z<|As 172 [] [] [vy] Z Z U1 Ac (EM _ vy (y) (hy.ext g2 aw) hqy (by intro _;omega)) ?_
 rintro e2 w2 ⟨rfl,aa⟩
 refine⟨_,rfl,aa,?_⟩
 have b5:=aa.size
 have b6:=aw.trans aa
 have a3:=ae.ext aa
 refine As 171 [] [] [zI ((E1 y:Nat):Int)] Z Z lO Ac (L2 _ _ (by unfold E1;omega) oM) ?_
 rintro e3 w3 ⟨af,rfl,ab,a1⟩
 refine⟨_,rfl,ab,?_⟩
 have b7:=ab.size
 have b8:=b6.trans ab
 have a4:=a3.ext ab
 refine Bs (u:=af) (B:=w3.heap.size) Bc Bn AU Z Z (LR w3.heap.size w3.heap.size _<|⟨(Bl a1.isSl).1,(Bl a1.isSl).2⟩) (A9 _) Ac fun v4 w4 ac bo b9=>?_
 have ba:=ac.size
 have ag:=b8.trans ac
 have a5:=a4.ext ac
 have a2:=a1.ext (o1) ac
 refine Af 1 Z ?_
 obtain⟨bq,bb,ah,bc⟩:=Rd.heads (E:=B3 rI) g1 [] (RN.rd hy)
 refine MO (v:=v4) (a:=vy) Bn AU Z Z Z b9 oM (bb.ext gV ag) (by rw[ah];simp only[z9,zb];omega) (by rw[ah];unfold maxLen;simp only[z9,zb];omega) Ac fun v5 w5 F5 ad ai bd=>?_
 have be:w4.heap.size≤w5.heap.size:=ad.size
 have aj:AB w w5:=ad.below ag (fun c hc=>zH<|ai c hc) ag.size
 have bf:=a2.chg (o1) ad fun c hc=>zH<|ai c hc
 have ax:=a5.chg ad fun hm=>zH<|ai _ hm
 obtain⟨ak,al⟩:=RN.ofV (xs:=((List.replicate (((E1 y:Nat):Int).toNat+1) 0).set 1 1)::y) bd (by simp[ah]) (fun k hk=>match k,hk with|0,_=>RN.of_fr1 bf (fun b hb=>absurd hb z2)|k+1,hk=>(RN.of (bc k (by simpa using hk))).ext g1 aj)
 refine Ae 1 Z<|qS [2,0,0,3,0,0,0,0,0,0,0] Z ?_
 rw[← hts]at ak
 refine AZ (p:=zP w.heap.size) (.inr Z) [vp] CL Z (fun br bg=>LD.of_box<|BX.ext (w:=w5) ax bg) Z Ac<|Af 2 Z<|As 173 [] [] [.agg #[vp],zI f,v5] Z Z lP Ac (Ir _ dp vp (p) (f) (E1 y+1) v5 (Cc y) (hp.ext (Am<|AC dp) aj) _hf ak al hok hz oM oM oM (by exact Jd hsy au.1) oM) ?_
 rintro e7 w7 ⟨lv7,lu7,lc7,rfl,a6,a7,am,an⟩
 refine⟨_,rfl,a6,?_⟩
 have bh:=a6.size
 have ay:=aj.trans a6
 refine Af 1 Z<|AI (vs:=[lv7,lu7,zI lc7]) lv7 Z Z Ac<|AI (vs:=[lv7,lu7,zI lc7]) lu7 Z Z Ac<|AI (vs:=[lv7,lu7,zI lc7]) (zI lc7) Z Z Ac<|Ae 3 Z<|A0<|qS [0,0] Z<|Af 1 Z ?_
 by_cases az:lc7≠((0:Nat):Int)
 ·exact B4 true Z Z (A7 az) Ac<|Ai<|Ag Z<|qS [0,0,0,0] Z<|Ae 4 Z<|A3<|Ap<|Ah [6,7,8] Z (.tuple #[zN,zN,zI lc7]) Z ⟨_,_,_,rfl,ay,a7,am,(fun h9=>absurd h9 oM)⟩
 refine B4 false Z Z (A8 az) Ac<|Ai<|Aj Z<|A4<|qS [0,0,3,0,0,0] Z ?_
 obtain⟨bj,bk,T0,a8,s0,hrl,hxo,b0,bp⟩:=an oM
 have hslx:∀k,k<(HG (E1 y+1) T0 a8 (Cc y) a8.length).length→1≤((HG (E1 y+1) T0 a8 (Cc y) a8.length).getD k []).length:=fun k hk=>by rw[Jc]at hk;rw[PL hk];unfold R4;rw[TC,DC];omega
 have bs:=(Fu hok).outs f.toNat oM
 refine Af 2 Z<|As 174 [] [] [lu7] Z Z lQ Ac (NW _ lu7 (HG (E1 y+1) T0 a8 (Cc y) a8.length) b0 hslx (by rw[Jc];omega)) ?_
 rintro bt bu ⟨bl,rfl,a0,ao,a9⟩
 refine⟨_,rfl,a0,?_⟩
 have b1:=a0.size
 have ap:=ay.trans a0
 have ar:=bj.ext g2 a0
 exact Ae 3 Z<|A3<|Ah [6,7,8] Z (.tuple #[lv7,bl,zI ((0:Nat):Int)]) Z ⟨_,_,_,rfl,ap,(by show(0:Int)=_;rw[← a7];omega),(by show(0:Int)≤0∧(0:Int)≤9;omega),(fun _=>⟨ar,bk,_,_,_,hrl,hxo,ao,a9⟩)⟩
theorem Is (w:World)(vs:Value)(s:Sr)(vm:Nat)(m:Int)(hs:Rd (B3 rI) w.heap vs s)(hcm:Fj w.heap (zP vm)=some (zI m))(_hm:BI m)(hm:0≤m∧m<(s.length:Int)) :
  Calls Tryz.prog 96 #[vs,zP vm] w (fun e w'=>e=.returned (.bool (s.getD m.toNat 0 != 0))∧AB w w'):=by
 refine At [vs,zP vm] 9 Tryz.func96 Z Z sM ?_
 have a0:AB w w:=AB.refl w
 have a1:=hs.lenle
 refine qT Z<|qS [0,2,0,2,0,0] Z<|Af 1 Z<|Al (.inr Z) (zI m) M6 Z (AR a0 hcm) Ac<|Aw (v:=vs) ((m).toNat) Bm BM Z Z hs.isSl oM sD Ac ?_
 refine Al (p:=Ax vs ((m).toNat) 1) (.inr Z) (zI<|s.getD ((m).toNat) 0) AO Z (AR a0 (hs.getI sD).1) Ac<|B4 (decide (s.getD ((m).toNat) 0≠((0:Nat):Int))) Z Z Z Ac<|Ae 1 Z<|A3 ?_
 exact Ah [3] Z (.bool<|decide (s.getD ((m).toNat) 0≠((0:Nat):Int))) Z ⟨AF (by show decide (s.getD m.toNat 0≠0)=(s.getD m.toNat 0 != 0);by_cases h9:s.getD m.toNat 0=0;(rw[h9];rfl);(rw[A7 h9];exact(bne_iff_ne.2 h9).symm)),a0⟩
theorem FX (w:World)(dp:Nat)(vp:Value)(p:List Fn)(f:Int)(vy:Value)(y:List (Sr))(hp:RP [] dp w.heap vp p)(_hf:BI f)(hy:RN [] (B3 (B3 rI)) w.heap vy y)(hqy:Cj vy)(hz:Px p) :
  Calls Tryz.prog 24 #[(.agg #[vp]),zI f,vy] w (fun e w'=>e=.returned (.tuple #[zI (S3 p f y),zI (LA p f y)])∧AB w w'):=by
 refine At [.agg #[vp],zI f,vy] 47 Tryz.func24 Z Z sM ?_
 have b0:AB w w:=AB.refl w
 have bm:=hp.lenle
 unfold maxLen at bm
 have bn:=hy.lenL
 unfold maxLen at bn
 refine qS [3,0,0] Z (C8 (cs:=#[vp]) Z Ac fun w1 ao bb ai=>?_)
 have ap:=ao.size
 have aj:=b0.trans ao
 replace ai:BX w1.heap w.heap.size [vp]:=ai
 refine Ae 2 Z<|A0<|qS [2,0,0,3,0] Z<|AZ (p:=zP w.heap.size) (.inr Z) [vp] CL Z (fun bq aq=>LD.of_box<|BX.ext (w:=w1) ai aq) Z Ac<|Af 2 Z<|As 95 [] [] [.agg #[vp],zI f,vy] Z Z kZ Ac (IX _ dp vp (p) _ vy (y) (hp.ext (Am<|AC dp) aj) _hf (hy.ext g2 aj) hqy hz) ?_
 rintro e2 w2 ⟨rfl,a7⟩
 refine⟨_,rfl,a7,?_⟩
 have ar:=a7.size
 have a8:=aj.trans a7
 have a9:=ai.ext a7
 refine Ae 1 Z<|qS [0,0] Z<|Af 1 Z ?_
 by_cases b1:Nw p f y≠((0:Nat):Int)
 ·exact B4 true Z Z (A7 b1) Ac<|Ai<|Ag Z<|qS [0,0,0] Z<|Ae 3 Z<|A3<|Ap<|Ah [6,7] Z (.tuple #[zI ((0:Nat):Int),zI<|Nw p f y]) Z ⟨(by rw[cS (by rw[TD oM];omega),TD oM];rfl),a8⟩
 refine B4 false Z Z (A8 b1) Ac<|Ai<|Aj Z<|A4<|qS [2,0,0,3,0,0,0,0,0,0,0] Z ?_
 have ak:Nw p f y=0:=by omega
 have al:=XX ak
 have br:=Fu al.1
 have hsy:=al.2.2.2.2.1
 have hyl:=(hsy 0 oM).1
 have hEV:=oW br (f:=f.toNat) oM (Jd hsy oM) (by rw[DC];omega)
 refine AZ (p:=zP w.heap.size) (.inr Z) [vp] CL Z (fun bq aq=>LD.of_box<|BX.ext (w:=w2) a9 aq) Z Ac<|Af 2 Z<|As 88 [] [] [.agg #[vp],zI f,vy] Z Z bG Ac (CB _ dp vp (p) (f) vy (y) (hp.ext (Am<|AC dp) a8) _hf (hy.ext g2 a8) hqy al.1 hz oM al.2.2.2.1.2 hsy oM) ?_
 rintro e4 w4 ⟨lv4,lu4,lc4,rfl,am,bc,bd,au⟩
 refine⟨_,rfl,am,?_⟩
 have av:=am.size
 have aw:=a8.trans am
 refine Af 1 Z<|AI (vs:=[lv4,lu4,zI lc4]) lv4 Z Z Ac<|AI (vs:=[lv4,lu4,zI lc4]) lu4 Z Z Ac<|AI (vs:=[lv4,lu4,zI lc4]) (zI lc4) Z Z Ac<|Ae 3 Z<|A0<|qS [0,0] Z<|Af 1 Z ?_
 by_cases b2:lc4≠((0:Nat):Int)
 ·exact B4 true Z Z (A7 b2) Ac<|Ai<|Ag Z<|qS [0,0,0] Z<|Ae 3 Z<|A3<|Ap<|Ah [6,7] Z (.tuple #[zI ((0:Nat):Int),zI lc4]) Z ⟨(by have h9:=‹_=H2 p (E1 y+1) f.toNat (Cc y)›;rw[cS (by rw[Nx ak];omega),Nx ak,← h9];rfl),aw⟩
 refine B4 false Z Z (A8 b2) Ac<|Ai<|Aj Z<|A4<|A0<|qS [0,0,2,0,0] Z ?_
 obtain⟨b3,bl,_⟩:=au oM
 have an:LA p f y=0:=by rw[Nx ak];omega
 have hel:(CS p (E1 y+1) f.toNat (Cc y)).length=(p.getD f.toNat Fn.zero).outs.length:=hEV.len oM
 have hes:=hEV.ser
 have be:((CS p (E1 y+1) f.toNat (Cc y)).getD 0 []).length=(y.getD 0 []).length:=by have:=(hes 0 oM).1;omega
 refine Af 1 Z<|Aw (v:=lv4) 0 Bn AU Z Z b3.slL Z sD Ac ?_
 obtain⟨b4,bf,b5⟩:=RN.getL (w:=w4) g1 [] (k:=0) b3 sD
 have aa:=b5.lenL
 unfold maxLen at aa
 refine Al (p:=Ax lv4 0 1) (.inr Z) b4 B7 Z (bf _<|Az.refl _ _) Ac<|AN (v:=b4) Bm Z b5.slL Ac<|Ae 1 Z<|A5<|AQ (S:=Nat) (fun k=>([(35,zI (k:Int)),(9,lv4),(34,zI ((((CS p (E1 y+1) f.toNat<|Cc y).getD 0 []).length:Nat):Int))])) (fun k W=>AB w W∧k≤(y.getD 0 []).length∧(∀j,j<k→(CS p (E1 y+1) f.toNat<|Cc y).any (fun s=>s.getD j 0 != 0)=false)∧RN [] (B3<|B3 rI) W.heap lv4 (CS p (E1 y+1) f.toNat<|Cc y)) (fun k=>(y.getD 0 []).length-k) 0 ⟨rfl,rfl,rfl,trivial⟩ ⟨aw,oM,(by intro j hj;omega),(by assumption)⟩ ?_
 clear b0 bb ao ap aj a7 ar a8 am av aw aa
 rintro k ρ8 w8 ⟨ax,b6,hzz,a2⟩
 have bg:w.heap.size≤w8.heap.size:=ax.size
 refine qS [0] Z ?_
 by_cases b7:(k:Int)<((((CS p (E1 y+1) f.toNat (Cc y)).getD 0 []).length:Nat):Int)
 ·refine Ay true Z Z (A7 b7) Ac<|Ai<|A0<|Ag Z<|A4<|A0<|A5<|qS [0,3,4] Z<|Af 1 Z (Br (z:=zI (0:Int)) (by kernel_rfl) Ac fun bp a0 bh a5=>?_)
  have b8:=a0.size
  have ab:=ax.trans a0
  have bi:=a2.ext g2 a0
  replace a5:BX bp.heap w8.heap.size [zI (0:Int)]:=a5
  refine BB (k:=0) (w:=bp) qL Z Z ⟨rfl,rfl⟩ a5 sM Ac fun bo a6 bj a3=>?_
  replace a3:BX bo.heap w8.heap.size [zI (k:Int)]:=a3
  have ay:AB w bo:=a6.below ab (fun _ h=>zE h) ab.size
  have b9:bp.heap.size≤bo.heap.size:=a6.size
  have ac:=a2.ext g2<|a6.below a0 (fun _ h=>zE h) a0.size
  refine Ai<|qS [0,0,3] Z<|Af 1 Z<|P4 [] [zP w8.heap.size] Z Z Ac<|As 90 [] [] [lv4,.func (.func 96) #[] #[zP w8.heap.size]] Z Z kW Ac (Za _ _ _ 96 [] [zP w8.heap.size] (fun s=>s.getD k 0 != 0) (ac).rd qJ fun u j w1 hj hx hw=>Is w1 u _ w8.heap.size (k:Int) hx ((BX.ext (w:=bo) a3 hw).ld (k:=0) sM) oM (zH<|(hes j hj).1)) ?_
  rintro bs bt ⟨rfl,a1⟩
  refine⟨_,rfl,a1,?_⟩
  have ba:=a1.size
  have ad:=ay.trans a1
  have a4:=a3.ext a1
  have bk:=ac.ext g2 a1
  refine Ai ?_
  cases ae:((CS p (E1 y+1) f.toNat (Cc y)).any (fun s=>s.getD k 0 != 0))
  ·exact Aj (by first|rfl|exact zW ae)<|A4<|Ad _ [0,0] Z<|AG ((k+1:Nat):Int) Z Z (Bd oM sD) Ac<|Ae 1 Z ⟨k+1,_,rfl,zR,⟨ad,oM,(by intro j hj;by_cases h9:j=k;(subst h9;assumption);exact hzz j oM),(by assumption)⟩,zD⟩
  exact Ag (by first|rfl|exact zW ae)<|qS [2,0,0] Z<|Al (p:=zP w8.heap.size) (.inr Z) (zI (k:Int)) M6 Z (a4.ld (k:=0) sM) Ac<|Ae 2 Z<|A3<|AK<|Ap<|Ap<|AK<|Ap<|Ah [6,7] Z (.tuple #[zI (k:Int),zI ((0:Nat):Int)]) Z ⟨(by rw[TF an,an,← (Lz.mk oM (fun i hi j hj=>S0 (hzz j hj) i hi)<|.inr<|XY (by assumption)).eq];rfl),ad⟩
 refine Ay false Z Z (A8 b7) Ac<|Ai<|A0<|Aj Z<|A6<|Au<|Au<|An<|qS [0,0,2,0,0,0] Z<|Af 1 Z<|Aw (v:=lv4) 0 Bn AU Z Z a2.slL Z sD Ac ?_
 obtain⟨af,az,ag⟩:=RN.getL (w:=w8) g1 [] (k:=0) a2 sD
 have ah:=ag.lenL
 unfold maxLen at ah
 exact Al (p:=Ax lv4 0 1) (.inr Z) af B7 Z (az _<|Az.refl _ _) Ac<|AN (v:=af) Bm Z ag.slL Ac<|Ae 2 Z<|A3<|Ah [6,7] Z (.tuple #[zI ((((CS p (E1 y+1) f.toNat<|Cc y).getD 0 []).length:Nat):Int),zI ((0:Nat):Int)]) Z ⟨(by rw[TF an,an,← (Lz.mk (A9 _) (fun i hi j hj=>S0 (hzz j oM) i hi)<|.inl Z).eq,be];rfl),ax⟩
theorem CQ (w:World)(va:Value)(us:List Value)(hus:Rd (B3 rV) w.heap va us)(hla:us.length≤1000000000000) :
  Calls Tryz.prog 176 #[va] w (fun e w'=>∃v0:Value,e=.returned (v0)∧AB w w'∧Fr (AY rV 27) w.heap.size w'.heap.size w'.heap v0 us):=by
 refine At [va] 8 Tryz.func176 Z Z sM ?_
 have a1:AB w w:=AB.refl w
 have ac:=hus.lenle
 refine qT Z<|A0<|qS [0,0] Z<|Af 1 Z ?_
 cases a2:Rn va
 ·refine V7 (v:=va) false Bn Z Z hus.isSl a2 Ac<|Ai<|Aj Z<|A4<|qS [3,0,4,0] Z (BS (rV) Bc Bn AU Ac fun v2 w2 a3 ab a5=>?_)
  have a6:=a3.size
  have a0:=a1.trans a3
  refine Af 1 Z (MO (v:=v2) (a:=va) Bn AU Z Z Z a5 a0.size (hus.ext gV a0) sD (by unfold maxLen;first|omega|assumption|(simp;done)|(simp;omega)) Ac fun v3 w3 F3 a4 a7 a8=>?_)
  have a9:AB w w3:=a4.below a0 (fun c hc=>Aa (A9 _) (a7 c hc).1) a0.size
  have aa:=a4.size
  exact Ae 1 Z<|A3<|Ah [2] Z v3 Z ⟨v3,rfl,a9,a8.up oV⟩
 refine V7 (v:=va) true Bn Z Z hus.isSl a2 Ac<|Ai<|Ag Z<|qT Z<|A3<|Ap ?_
 have hnil:us=[]:=hus.nil_of (by assumption)
 subst hnil
 exact Ah [2] Z zN Z ⟨zN,rfl,a1,Ju _ _ _⟩
attribute [local irreducible] CK Cq Ll Jj Gq C6 Ci DJ
theorem Rg {p:Prop}(h:p:=by unfold maxLen;first|omega|assumption|(simp only[zb,z9,z4,z6,z5];omega)|(simp[zb,z9,z4,z6,z5];done)|(simp[zb,z9,z4,z6,z5];omega)):p:=h
theorem eX {p:Prop}(h:p:=by first|exact DZ (by rw[← hpv.out];exact(ST oM).symm)|exact DZ (by rw[← hpv.out];exact(MX (f:=(fun r=>sA.z ((M.getD r []).getD c sA.d))) (A8 ‹¬((M.getD p []).getD c []).getD 0 0=((0:Nat):Int)›)).symm)):p:=h
theorem eY {p:Prop}(h:p:=by first|exact DZ (by rw[hR.out];exact(JY hlD.out oM oM).symm)|exact DZ (by have h:=hK.out;rw[hR.out,Uz hlD.out (hD.row r oM).len oM oM hrn.2.out oM]at h;exact h)):p:=h
theorem Zd {p:Prop}(h:p:=by exact hL58_1.weak (fun r0 hr0 h0=>by first|omega|(dsimp only at h0 ⊢;omega)) oM):p:=h
theorem JJ (w:World)(va:Value)(a:List (List (Sr)))(vb:Value)(b:List (Sr))(ha:Rd (B3 (B3 (B3 rI))) w.heap va a)(hb:Rd (B3 (B3 rI)) w.heap vb b)(h6:a.length≤1000)(hba:b.length=a.length)(hra:∀r,r<a.length→(a.getD r []).length=a.length)(l6:∃N,1≤N∧N≤1000∧Sh (BN N) [] a.length (a.length+1) (Hq a b)) :
  Calls Tryz.prog 92 #[va,vb] w (fun e w'=>∃v0:Value,e=.returned (.tuple #[v0,.bool ((CR a b).isSome)])∧AB w w'∧Fr (AY (AY rI 2) 27) w.heap.size w'.heap.size w'.heap v0 (G6 a b)):=by
 refine At [va,vb] 176 Tryz.func92 Z Z sM ?_
 have ju:AB w w:=AB.refl w
 have f3:=ha.lenle
 have f4:=hb.lenle
 obtain⟨N,mc,md,hA⟩:=l6
 refine qS [0,0] Z<|Ae 2 Z<|qS [0,0,3,0,0] Z<|Af 1 Z<|AN (v:=va) Ds Z ha.isSl Ac (BS (AY rV 27) oV Ds DX Ac fun v1 w1 i5 l7 jv=>?_)
 have i6:=i5.size
 have jw:=ju.trans i5
 refine Ae 2 Z<|A0<|qS [0,0,0] Z<|Af 1 Z<|AN (v:=va) Ds Z ha.isSl Ac<|Ae 1 Z<|A5 ?_
 refine AQ (S:=Nat×Value×List (List Value)) (fun⟨k,vo,V0⟩=>([(7,vo),(25,zI (k:Int)),(1,vb),(6,zI (a.length:Int)),(23,va),(24,zI (a.length:Int))])) (fun⟨k,vo,V0⟩ W=>AB w W∧Fr (AY (AY rV 27) 30) w.heap.size W.heap.size W.heap vo V0∧k≤a.length∧Zj w.heap a.length V0 (Hq a b) k) (fun⟨k,vo,V0⟩=>a.length-k) (0,v1,([]:List (List Value))) ⟨rfl,rfl,rfl,rfl,rfl,rfl,trivial⟩ ⟨jw,jv.up Qk,sD,(by exact Zj.zero _ _ _)⟩ ?_
 clear ju jv l7 i5 i6 jw
 rintro⟨k,vo,V0⟩ ρ2 w2 ⟨b7,aq,ds,hH⟩
 have l8:w.heap.size≤w2.heap.size:=b7.size
 have hHl:=hH.len
 refine qS [0] Z ?_
 by_cases dt:(k:Int)<(a.length:Int)
 ·refine Ay true Z Z (A7 dt) Ac<|Ai<|A0<|Ag Z<|A4<|A0<|A5<|qS [0,0,2,0,0] Z<|Af 1 Z<|Aw (v:=va) k Ds DX Z Z ha.isSl Z sD Ac ?_
  obtain⟨i7,l9,i8⟩:=ha.get (k:=k) [] sD
  have la:=i8.lenle
  refine Al (p:=Ax va k 1) (.inr Z) i7 DY Z (AR b7 l9) Ac<|Ae 2 Z<|UX _ [0,0,3,0,0,0,1,3,4,3,4,0] 2 7 [0,1,3,4,5,6,7,2,8,9,10,11] [_,_,_,_,_,_,_,_,_,_,_,_] [0,0,0,0,0,1,3,3,4,3,4,0] mixed (by kernel_rfl) Z ⟨rfl,rfl,⟨rfl,rfl,⟨rfl,rfl,⟨rfl,rfl,⟨rfl,rfl,⟨rfl,rfl,⟨rfl,rfl,⟨rfl,rfl,⟨rfl,rfl,⟨rfl,rfl,⟨rfl,rfl,⟨rfl,rfl,trivial⟩⟩⟩⟩⟩⟩⟩⟩⟩⟩⟩⟩ ?_ ?_
  ·have hrk:=hra k oM
   obtain⟨us,hus,hul,hur⟩:=i8.heads g1 []
   refine Af 2 Z<|As 176 [] [] [i7] Z Z dW Ac (CQ _ _ _ (hus.ext gV b7.drew) oM) ?_
   rintro e5 w5 ⟨i9,rfl,dr,b8⟩
   refine⟨_,rfl,dr,?_⟩
   replace dr:=dr.of_drew
   have lb:=dr.size
   have lc:=b7.trans dr
   have bx:=aq.ext (Qk) dr
   replace b8:=b8.low (B':=w2.heap.size)<|A9 _
   refine Af 2 Z<|Aw (v:=vb) k Bn AU Z Z hb.isSl Z sD Ac ?_
   obtain⟨ia,ld,ib⟩:=hb.get (k:=k) [] sD
   have le:=ib.lenle
   refine Al (p:=Ax vb k 1) (.inl Z) ia B7 Z (AR b7.drew ld) Ac ?_
   have hbk:=ib
   refine Bs (u:=ia) (B:=w5.heap.size) Bc Bn AU Z Z (LR w5.heap.size w5.heap.size _<|Bl ib.isSl) (A9 _) Ac fun v7 w7 i0 me lf=>?_
   have lg:=i0.size
   have jx:=lc.trans i0
   have bz:=bx.ext (Qk) i0
   have c0:=b8.ext (oV) i0
   refine MO (v:=i9) (a:=v7) Bn AU Z Z Z c0 oM lf.rdV1 sD Rg Ac fun v8 w8 F8 ic jy lh=>?_
   have li:AB w w8:=ic.below jx (fun c hc=>Aa b7.size (jy c hc).1) jx.size
   have lj:=ic.size
   have lk:=bz.chg (Qk) ic fun c hc=>zH<|jy c hc
   refine Bs (u:=v8) (B:=w2.heap.size) oV Ds DX Z Z lh (by first|exact A9 _|omega) Ac fun mh n3 cq ll id=>?_
   have jz:=cq.size
   have cr:=li.trans cq
   have cs:=lk.ext (Qk) cq
   refine Ez oV (v:=vo) (a:=mh) Ds DX Z Z Z cs cr.size id oM b7.size sD Rg Ac fun mi mj n4 du ie ig=>?_
   have ih:AB w mj:=du.below cr (fun c hc=>Aa (A9 _) (ie c hc).1) cr.size
   have k0:=du.size
   refine Ae 1 Z<|Ad _ [0,0] Z<|AG ((k+1:Nat):Int) Z Z (Bd oM sD) Ac<|Ae 1 Z ?_
   exact⟨(k+1,mi,V0++[us++[ia]]),_,rfl,zR,⟨ih,ig.up Qk,sD,(by exact hH.snoc (N5 a b oM) hrk hul hur hbk)⟩,zD⟩
  have hrk:=hra k oM
  obtain⟨us,hus,hul,hur⟩:=i8.heads g1 []
  refine Af 4 Z<|Aw (v:=vb) k Bn AU Z Z hb.isSl Z sD Ac ?_
  obtain⟨ct,ii,cu⟩:=hb.get (k:=k) [] sD
  have k1:=cu.lenle
  refine Al (p:=Ax vb k 1) (.inl Z) ct B7 Z (AR b7.drew ii) Ac ?_
  have hbk:=cu
  refine Bs (u:=ct) (B:=w2.heap.size) Bc Bn AU Z Z (LR w2.heap.size w2.heap.size _<|Bl cu.isSl) (A9 _) Ac fun ml mn b9 lm ij=>?_
  replace b9:=b9.of_drew
  have k2:=b9.size
  have c1:=b7.trans b9
  have ba:=aq.ext (Qk) b9
  refine As 176 [] [] [i7] Z Z dW Ac (CQ _ _ _ (hus.ext gV c1) oM) ?_
  rintro n5 n6 ⟨dv,rfl,bb,cv⟩
  refine⟨_,rfl,bb,?_⟩
  have k3:=bb.size
  have dw:=c1.trans bb
  have bc:=ba.ext (Qk) bb
  have c2:=ij.ext (oV) bb
  refine MO (v:=dv) (a:=ml) Bn AU Z Z Z cv oM c2.rdV1 sD Rg Ac fun mo mp n7 cw dx ik=>?_
  have il:AB w mp:=cw.below dw (fun c hc=>Aa c1.size (dx c hc).1) dw.size
  have k4:=cw.size
  have im:=bc.chg (Qk) cw fun c hc=>zH<|dx c hc
  refine Bs (u:=mo) (B:=mn.heap.size) oV Ds DX Z Z ik (by first|exact A9 _|omega) Ac fun mq n8 cx ln io=>?_
  have k5:=cx.size
  have cy:=il.trans cx
  have c3:=im.ext (Qk) cx
  refine Ez oV (v:=vo) (a:=mq) Ds DX Z Z Z c3 cy.size io oM c1.size sD Rg Ac fun mr ms n9 dy ip iq=>?_
  have ir:AB w ms:=dy.below cy (fun c hc=>Aa (A9 _) (ip c hc).1) cy.size
  have k6:=dy.size
  refine Ae 1 Z<|Ad _ [0,0] Z<|AG ((k+1:Nat):Int) Z Z (Bd oM sD) Ac<|Ae 1 Z ?_
  exact⟨(k+1,mr,V0++[us++[ct]]),_,rfl,zR,⟨ir,iq.up Qk,sD,(by exact hH.snoc (N5 a b oM) hrk hul hur hbk)⟩,zD⟩
 refine Ay false Z Z (A8 dt) Ac<|Ai<|A0<|Aj Z<|A6<|Au<|Au<|An<|A0<|qS [0,0] Z<|Ae 2 Z<|A5 ?_
 have hHn:Zj w.heap a.length V0 (Hq a b) a.length:=by have h:=hH;rwa [show k=a.length from by omega]at h
 have is:SM 2 a.length w.heap.size w2.heap.size w2.heap.size (fun _=>1≤(0:Nat)) w2.heap V0 (Hq a b):=hHn.sm hA.len (fun r h=>(hA.row r h).len) (fun _ h=>by omega) b7
 refine AQ (S:=Nat×List (List Value)×List (List<|Sr)) (fun(⟨c,VM,M⟩:Nat×List (List Value)×List (List<|Sr))=>([(43,zI (c:Int)),(6,zI (a.length:Int)),(7,vo),(42,zI (a.length:Int))])) (fun(⟨c,VM,M⟩:Nat×List (List Value)×List (List<|Sr)) (W:World)=>AB w W∧Fr (AY (AY rV 27) 30) w.heap.size w2.heap.size W.heap vo VM∧SM 2 a.length w.heap.size w2.heap.size W.heap.size (fun _=>1≤c) W.heap VM M∧c≤a.length∧Sh (BN N) [] a.length (a.length+1) M∧Hid (O3 sA a.length (a.length-c) c M=CR a b)∧w2.heap.size≤W.heap.size) (fun(⟨c,VM,M⟩:Nat×List (List Value)×List (List<|Sr))=>a.length-c) (0,V0,Hq a b) ⟨rfl,rfl,rfl,rfl,trivial⟩ ⟨b7,aq,(by exact is.weak (fun r0 hr0 h0=>by first|omega|(dsimp only at h0 ⊢;omega)) oM),sD,hA,(by exact DZ Z),oM⟩ ?_
 clear aq
 rintro⟨c,VM,M⟩ ρ19 f1 ⟨bd,ac,a7,cz,hSh,hJ,dz⟩
 have e0:w.heap.size≤f1.heap.size:=bd.size
 have it:=a7.len
 have lo:=hSh.len
 refine qS [0] Z ?_
 by_cases d0:(c:Int)<(a.length:Int)
 ·refine Ay true Z Z (A7 d0) Ac<|Ai<|A0<|Ag Z<|A4<|A0<|A5<|qS [0,0] Z<|Ae 2 Z<|qS [0,0] Z<|Ae 2 Z<|A0<|Ib (S:=Nat) (fun p=>([(11,zI (p:Int)),(6,zI (a.length:Int)),(7,vo),(10,zI (c:Int)),(42,zI (a.length:Int)),(43,zI (c:Int))])) (fun p W=>AB w W∧SM 2 a.length w.heap.size w2.heap.size f1.heap.size (fun _=>1≤c) W.heap VM M∧Fr (AY (AY rV 27) 30) w.heap.size w2.heap.size W.heap vo VM∧c≤p∧p≤a.length∧Hid (p=HF sA a.length c M)∧w2.heap.size≤W.heap.size∧f1.heap.size≤W.heap.size) ?_ ?_
  ·refine A5 ?_
   refine AQ (S:=Nat) (fun p=>([(11,zI (p:Int)),(6,zI (a.length:Int)),(7,vo),(10,zI (c:Int)),(42,zI (a.length:Int)),(43,zI (c:Int))])) (fun p W=>AB w W∧SM 2 a.length w.heap.size w2.heap.size f1.heap.size (fun _=>1≤c) W.heap VM M∧Fr (AY (AY rV 27) 30) w.heap.size w2.heap.size W.heap vo VM∧c≤p∧p≤a.length∧Hid (O7 (fun r=>sA.z<|(M.getD r []).getD c sA.d) (a.length-p) p=HF sA a.length c M)∧w2.heap.size≤W.heap.size∧f1.heap.size≤W.heap.size) (fun p=>a.length-p) c ⟨rfl,rfl,rfl,rfl,rfl,rfl,trivial⟩ ⟨bd,a7,ac,sD,sD,(by exact DZ Z),oM,oM⟩ ?_
   clear a7 ac
   rintro p ρ25 mt ⟨c4,ad,ae,iu,iv,hpv,k7,k8⟩
   have k9:w.heap.size≤mt.heap.size:=c4.size
   refine A0<|qS [0,0,0,0,0,0,0,2,0,0,2,0,2,0,0] Z<|Af 2 Z ?_
   by_cases e1:(p:Int)<(a.length:Int)
   ·refine Ay true Z Z (A7 e1) Ac<|Af 3 Z ?_
    have hrp:=ad.row p oM
    have hNp:=((hSh.row p oM).val c oM).1
    refine Aw (v:=vo) p Ds DX Z Z ae.isSl Z sD (Ak (e:=50) Z Z Z) ?_
    obtain⟨d1,iw,d2⟩:=ae.rdV2.get (k:=p) [] sD
    have ka:=d2.lenle
    refine Al (p:=Ax vo p 1) (.inr Z) d1 DY Z iw (Ak (e:=50) Z Z Z)<|Af 1 Z<|Aw (v:=d1) c Bn AU Z Z d2.isSl Z sD (Ak (e:=50) Z Z Z) ?_
    have e2:=d2.getV (k:=c) sD
    have be:=ad.ser p c oM oM
    have kb:=be.rd.lenle
    refine Al (p:=Ax d1 c 1) (.inr Z) ((VM.getD p []).getD c undef) B7 Z e2.1 (Ak (e:=50) Z Z Z)<|Aw (v:=(VM.getD p []).getD c undef) 0 Bm BM Z Z be.rd.isSl Z sD (Ak (e:=50) Z Z Z) ?_
    refine Al (p:=Ax ((VM.getD p []).getD c undef) 0 1) (.inr Z) (zI<|((M.getD p []).getD c []).getD 0 0) AO Z (be.rd.getI sD).1 (Ak (e:=50) Z Z Z) ?_
    by_cases e3:((M.getD p []).getD c []).getD 0 0=((0:Nat):Int)
    ·refine Av true Z Z (A7 e3) (Ak (e:=50) Z Z Z)<|Ae 1 Z<|Ag Z<|A4<|A5<|Ad _ [0,0,0] Z<|Af 1 Z<|AG ((p+1:Nat):Int) Z Z (Bd oM sD) Ac<|Ae 1 Z ?_
     exact⟨p+1,_,rfl,zR,⟨c4,ad,ae,sD,sD,(by exact DZ (by rw[← hpv.out,Kv (f:=fun r=>sA.z ((M.getD r []).getD c sA.d)) (n:=a.length) (p:=p) oM (A7 ‹((M.getD p []).getD c []).getD 0 0=((0:Nat):Int)›)])),oM,oM⟩,zD⟩
    refine Av false Z Z (A8 e3) (Ak (e:=50) Z Z Z)<|Ae 1 Z<|Aj Z<|A6<|Au<|Au<|An ?_
    exact⟨p,_,rfl,zR,⟨c4,ad,ae,sD,sD,eX,oM,oM⟩⟩
   refine Ay false Z Z (A8 e1) Ac<|Ae 12 Z<|Aj Z<|A6<|Au<|Au<|An ?_
   exact⟨p,_,rfl,zR,⟨c4,ad,ae,sD,sD,eX,oM,oM⟩⟩
  clear a7 ac
  rintro p ρ22 fe ⟨bf,bg,a0,d3,d4,hpe,e4,e6⟩
  have e7:w.heap.size≤fe.heap.size:=bf.size
  refine A0<|qS [0,0,0] Z<|Af 2 Z ?_
  by_cases d5:(p:Int)=(a.length:Int)
  ·refine Av true Z Z (A7 d5) Ac<|Ai<|Ag Z<|qS [0,0] Z<|Ae 2 Z<|A3<|Ap<|AK<|Ap<|Ap<|AK<|Ap ?_
   have hno:=Qy hJ.out oM (by rw[← hpe.out];omega)
   exact Ah [4,5] Z (.tuple #[zN,.bool false]) Z ⟨zN,(by rw[hno];rfl),bf,(by rw[Us hno];exact Ju _ _ _)⟩
  refine Av false Z Z (A8 d5) Ac<|Ai<|Aj Z<|A4<|A0<|Ib (S:=List (List Value)×List (List<|Sr)) (fun(⟨V1,M1⟩:List (List Value)×List (List<|Sr))=>([(6,zI (a.length:Int)),(7,vo),(10,zI (c:Int)),(42,zI (a.length:Int)),(43,zI (c:Int))])) (fun(⟨V1,M1⟩:List (List Value)×List (List<|Sr)) (W:World)=>AB w W∧Fr (AY (AY rV 27) 30) w.heap.size w2.heap.size W.heap vo V1∧SM 2 a.length w.heap.size w2.heap.size W.heap.size (fun _=>1≤c) W.heap V1 M1∧Sh (BN N) [] a.length (a.length+1) M1∧Hid (M1=Bv M c p [])∧(c≤p∧p<a.length∧Hid (p=HF sA a.length c M))∧w2.heap.size≤W.heap.size) ?_ ?_
  ·refine AW _ [0,0,0,0,0,0,0,1,0,0,0,1,0,4,0,4] mixed (by kernel_rfl) ?_
   have hpl:=ft sA a.length c M oM
   have hne:HF sA a.length c M≠a.length:=by rw[← hpe.out];omega
   have lp:=Lj sA hne oM
   have c5:p=HF sA a.length c M:=hpe.out
   refine Af 6 Z<|Aw (v:=vo) p Ds DX Z Z a0.isSl Z sD Ac ?_
   obtain⟨e8,e9,ea⟩:=a0.rdV2.get (k:=p) [] sD
   have kc:=ea.lenle
   refine Al (p:=Ax vo p 1) (.inl Z) e8 DY Z e9 Ac<|Af 2 Z<|Aw (v:=vo) c Ds DX Z Z a0.isSl Z sD Ac ?_
   obtain⟨eb,ec,ed⟩:=a0.rdV2.get (k:=c) [] sD
   have kd:=ed.lenle
   refine Al (p:=Ax vo c 1) (.inl Z) eb DY Z ec Ac<|Aw (v:=vo) c Ds DX Z Z a0.isSl Z sD Ac ?_
   have ee:=Bl ea.isSl
   have ef:=Bl ed.isSl
   obtain⟨lq,eg,cj,ck⟩:=a0.opn oV oM
   obtain⟨ua37,eh,ei⟩:=ck p sD
   obtain⟨uc37,ej,ek⟩:=ck c sD
   have el:=IZ eh ei e9
   have em:=IZ ej ek ec
   refine Lc oV (v:=vo) (u:=e8) (w:=fe.drew) bH Z Z eg ee (by rw[cj];exact sD) Ac fun fr na bh lr en ix=>?_
   replace bh:=bh.of_drew
   have eo:AB w fr:=bh.below bf (fun c hc=>Aa (A9 _) (en c hc).1) bf.size
   have ke:=bh.size
   have iy:=bg.chg bh fun c hc=>zH<|en c hc
   refine Aw (v:=vo) p Ds DX Z Z a0.isSl Z sD Ac ?_
   refine Lc oV (v:=vo) (u:=eb) (w:=fr) bH Z Z ix ef (by rw[z6,cj];exact sD) Ac fun mu nb d6 ls ep iz=>?_
   have j0:AB w mu:=d6.below eo (fun c hc=>Aa (A9 _) (ep c hc).1) eo.size
   have kf:=d6.size
   have j1:=iy.chg d6 fun c hc=>zH<|ep c hc
   have j2:=iz.swap [] (i:=c) (j:=p) sD sD (by unfold Bv;rw[el,em])
   have j3:=j1.swap (fun _ _ h=>h) (c:=c) (p:=p) oM oM
   exact Ai ⟨(Bv VM c p [],Bv M c p []),_,rfl,zR,⟨j0,j2,(by exact j3.weak (fun r0 hr0 h0=>by first|omega|(dsimp only at h0 ⊢;omega)) oM),(by exact hSh.swap oM oM),(by exact DZ Z),(by exact⟨zO,zO,DZ c5⟩),oM⟩⟩
  clear ds dt dz cz it d0 e6 e4 d4 d3 d5 bd e0 a0 bg bf e7
  rintro⟨V1,M1⟩ ρ33 mv ⟨d7,a8,af,hSw,hMe,hpq,eq⟩
  have er:w.heap.size≤mv.heap.size:=d7.size
  clear hpe
  have lt:=hSw.len
  have c5:=hpq.2.2
  refine qS [0,0,0,2,0,0,2,0] Z ?_
  have j4:=af.len
  have j5:=af.row c oM
  refine Af 2 Z<|Aw (v:=vo) c Ds DX Z Z a8.isSl Z sD Ac ?_
  obtain⟨d8,es,c6⟩:=a8.rdV2.get (k:=c) [] sD
  have et:=c6.lenle
  refine Al (p:=Ax vo c 1) (.inr Z) d8 DY Z es Ac<|Af 1 Z<|Aw (v:=d8) c Bn AU Z Z c6.isSl Z sD Ac ?_
  have cl:=c6.getV (k:=c) sD
  have bi:=af.ser c c oM oM
  have eu:=bi.rd.lenle
  refine Al (p:=Ax d8 c 1) (.inr Z) ((V1.getD c []).getD c undef) B7 Z cl.1 Ac<|Ae 1 Z<|A0<|qS [0,0,0,2,0,0] Z<|Af 2 Z<|Aw (v:=vo) c Ds DX Z Z a8.isSl Z sD Ac ?_
  obtain⟨ev,ew,d9⟩:=a8.rdV2.get (k:=c) [] sD
  have ex:=d9.lenle
  refine Al (p:=Ax vo c 1) (.inr Z) ev DY Z ew Ac<|AN (v:=ev) Bn Z d9.isSl Ac<|Ae 1 Z<|A5 ?_
  refine AQ (S:=Nat×List (List Value)×List (List<|Sr)) (fun(⟨k,VK,MK⟩:Nat×List (List Value)×List (List<|Sr))=>([(93,zI (k:Int)),(6,zI (a.length:Int)),(7,vo),(10,zI (c:Int)),(12,(V1.getD c []).getD c undef),(42,zI (a.length:Int)),(43,zI (c:Int)),(92,zI (((V1.getD c []).length:Nat):Int))])) (fun(⟨k,VK,MK⟩:Nat×List (List Value)×List (List<|Sr)) (W:World)=>AB w W∧Fr (AY (AY rV 27) 30) w.heap.size w2.heap.size W.heap vo VK∧(SM 2 a.length w.heap.size w2.heap.size W.heap.size (fun r0=>1≤c∨(r0=c∧a.length<k)) W.heap VK MK)∧UT w.heap.size w2.heap.size W.heap ((V1.getD c []).getD c undef) ((M1.getD c []).getD c [])∧k≤a.length+1∧Sh (BN N) [] a.length (a.length+1) MK∧Hid (MK=Ll c k M1)∧w2.heap.size≤W.heap.size) (fun(⟨k,VK,MK⟩:Nat×List (List Value)×List (List<|Sr))=>a.length+1-k) (0,V1,M1) ⟨rfl,rfl,rfl,rfl,rfl,rfl,rfl,rfl,trivial⟩ ⟨d7,a8,(by exact af.weak (fun r0 hr0 h0=>by first|omega|(dsimp only at h0 ⊢;omega)) oM),bi,sD,hSw,(by exact DZ (Ut oM).symm),oM⟩ ?_
  clear eq j4 c6 es cl bi eu d9 ew af a8 d7 er et ex
  rintro⟨k,VK,MK⟩ ρ44 fs ⟨c7,a4,a9,an,da,hShK,hK,ey⟩
  have ez:w.heap.size≤fs.heap.size:=c7.size
  refine qS [0] Z ?_
  by_cases db:(k:Int)<(((V1.getD c []).length:Nat):Int)
  ·refine Ay true Z Z (A7 db) Ac<|Ai<|A0<|Ag Z<|A4<|A0<|A5<|qS [0,0] Z<|Ae 2 Z<|AW _ [0,0,0,1,0,0,0,0,1,0,0,1,0,3,0,4] mixed (by kernel_rfl) ?_
   have lu:=a9.len
   have lv:=a9.row c oM
   have hdv:=(hSw.row c oM).val c oM
   have j6:=(hShK.row c oM).val k oM
   have hx1l:=j6.1
   have hdvl:=hdv.1
   refine Af 2 Z<|Aw (v:=vo) c Ds DX Z Z a4.isSl Z sD Ac ?_
   obtain⟨dc,g0,g2⟩:=a4.rdV2.get (k:=c) [] sD
   have kg:=g2.lenle
   refine Al (p:=Ax vo c 1) (.inl Z) dc DY Z g0 Ac<|Af 3 Z<|Aw (v:=vo) c Ds DX Z Z a4.isSl Z sD Ac ?_
   obtain⟨dd,g3,c8⟩:=a4.rdV2.get (k:=c) [] sD
   have kh:=c8.lenle
   refine Al (p:=Ax vo c 1) (.inl Z) dd DY Z g3 Ac<|Af 1 Z<|Aw (v:=dd) k Bn AU Z Z c8.isSl Z sD Ac ?_
   have g4:=c8.getV (k:=k) sD
   have bj:=a9.ser c k oM oM
   have ki:=bj.rd.lenle
   refine Al (p:=Ax dd k 1) (.inl Z) ((VK.getD c []).getD k undef) B7 Z g4.1 Ac<|Af 1 Z<|As 177 [] [] [(VK.getD c []).getD k undef,(V1.getD c []).getD c undef] Z Z Yw Ac (FR _ _ _ _ _ bj.rd an.rd oM oM oM j6.2 hdv.2) ?_
   rintro nc mw ⟨cm,rfl,aa,ai⟩
   refine⟨_,rfl,aa,?_⟩
   replace aa:=aa.of_drew
   have kj:=aa.size
   have g5:=c7.trans aa
   have ar:=a4.ext (Qk) aa
   have au:=a9.ext aa
   have av:=an.ext aa
   have c9:=g2.ext gV aa
   have g6:=AR aa g0
   have i1:=c8.ext gV aa
   have kk:=AR aa g3
   have bk:=bj.ext aa
   replace ai:=ai.low (B':=fs.heap.size)<|A9 _
   refine Aw (v:=dc) k Bn AU Z Z c9.isSl Z sD Ac ?_
   refine SJ (v:=vo) (u:=dc) (a:=cm) (w:=mw) KS Z Z (Bl ai.isSl) ar sD g6 sD Ac fun fx nd aw lw bl j7=>?_
   have j8:AB w fx:=aw.below g5 (fun c hc=>Aa (A9 _) (bl c hc).1) g5.size
   have kl:=aw.size
   have j9:=au.chg aw fun c hc=>zH<|bl c hc
   have ja:=av.chg aw fun c hc=>zH<|bl c hc
   have lx:=bk.chg aw fun c hc=>zH<|bl c hc
   have jb:=ai.chg (o1) aw fun c hc=>zH<|bl c hc
   have jc:=j9.put (r:=c) (k:=k) (T':=fx.heap.size) oM oM jb oM oM oM oM
   refine Ai<|Ad _ [0,0] Z<|AG ((k+1:Nat):Int) Z Z (Bd oM sD) Ac<|Ae 1 Z ?_
   exact⟨(k+1,VK.set c ((VK.getD c []).set k cm),MK.set c ((MK.getD c []).set k (C6 ((MK.getD c []).getD k []) ((M1.getD c []).getD c [])))),_,rfl,zR,⟨j8,j7,(by exact jc.weak (fun r0 hr0 h0=>by first|omega|(dsimp only at h0 ⊢;omega)) oM),ja,sD,(by exact hShK.put oM ((Rw N).q _ _ j6 hdv)),(by exact DZ (by have h:=Uu (c:=c) (k:=k) hSw oM oM;rw[← hK.out]at h;exact h)),oM⟩,zD⟩
  refine Ay false Z Z (A8 db) Ac<|Ai<|A0<|Aj Z<|A6<|Au<|Au<|An<|qS [0,0] Z<|Ae 2 Z<|A5 ?_
  have hD:Sh (BN N) [] a.length (a.length+1) (Gq sA c p M):=hSh.div (Rw N) oM oM oM
  have hlD:=DZ hD.len
  refine AQ (S:=Nat×List (List Value)×List (List<|Sr)) (fun(⟨r,VR,MR⟩:Nat×List (List Value)×List (List<|Sr))=>([(113,zI (r:Int)),(6,zI (a.length:Int)),(7,vo),(10,zI (c:Int)),(42,zI (a.length:Int)),(43,zI (c:Int)),(112,zI (a.length:Int))])) (fun(⟨r,VR,MR⟩:Nat×List (List Value)×List (List<|Sr)) (W:World)=>AB w W∧Fr (AY (AY rV 27) 30) w.heap.size w2.heap.size W.heap vo VR∧SM 2 a.length w.heap.size w2.heap.size W.heap.size (fun r0=>1≤c∨r0=c∨r0<r) W.heap VR MR∧r≤a.length∧Sh (BN N) [] a.length (a.length+1) MR∧Hid (MR=CK r (Cq sA a.length c<|Gq sA c p M) (Gq sA c p M))∧w2.heap.size≤W.heap.size) (fun(⟨r,VR,MR⟩:Nat×List (List Value)×List (List<|Sr))=>a.length-r) (0,VK,MK) ⟨rfl,rfl,rfl,rfl,rfl,rfl,rfl,trivial⟩ ⟨c7,a4,(by exact a9.weak (fun r0 hr0 h0=>by first|omega|(dsimp only at h0 ⊢;omega)) oM),sD,hShK,(by exact DZ (by have h:=hK.out;rw[hMe.out,Uv (by rw[← hMe.out];exact hSw) oM oM]at h;rw[D8];exact h)),oM⟩ ?_
  clear j5 ey da db an a9 a4 c7 ez
  rintro⟨r,VR,MR⟩ ρ58 mx ⟨bm,a1,hL58_1,de,hShR,hR,g7⟩
  have g8:w.heap.size≤mx.heap.size:=bm.size
  refine qS [0] Z ?_
  by_cases df:(r:Int)<(a.length:Int)
  ·refine Ay true Z Z (A7 df) Ac<|Ai<|A0<|Ag Z<|A4<|A0<|A5<|qS [0,0] Z<|Ae 2 Z<|A0<|qS [0,0,0] Z<|Af 2 Z ?_
   by_cases dg:(r:Int)=(c:Int)
   ·refine Av true Z Z (A7 dg) Ac<|Ai<|Ag Z<|A6<|Au<|An<|Ad _ [0,0] Z<|AG ((r+1:Nat):Int) Z Z (Bd oM sD) Ac<|Ae 1 Z ?_
    exact⟨(r+1,VR,MR),_,rfl,zR,⟨bm,a1,Zd,sD,(by first|exact hShR|exact hShK),eY,oM⟩,zD⟩
   refine Av false Z Z (A8 dg) Ac<|Ai<|Aj Z<|A4<|qS [0,0,0,2,0,0,2,0] Z ?_
   have jd:=hL58_1.len
   have ly:=hL58_1.row r oM
   refine Af 2 Z<|Aw (v:=vo) r Ds DX Z Z a1.isSl Z sD Ac ?_
   obtain⟨dh,g9,ca⟩:=a1.rdV2.get (k:=r) [] sD
   have ga:=ca.lenle
   refine Al (p:=Ax vo r 1) (.inr Z) dh DY Z g9 Ac<|Af 1 Z<|Aw (v:=dh) c Bn AU Z Z ca.isSl Z sD Ac ?_
   have cn:=ca.getV (k:=c) sD
   have bn:=hL58_1.ser r c oM oM
   have gb:=bn.rd.lenle
   refine Al (p:=Ax dh c 1) (.inr Z) ((VR.getD r []).getD c undef) B7 Z cn.1 Ac<|Ae 1 Z<|qS [0,0,0,2,0,0] Z<|Af 2 Z<|Aw (v:=vo) r Ds DX Z Z a1.isSl Z sD Ac ?_
   obtain⟨gc,gd,di⟩:=a1.rdV2.get (k:=r) [] sD
   have ge:=di.lenle
   refine Al (p:=Ax vo r 1) (.inr Z) gc DY Z gd Ac<|AN (v:=gc) Bn Z di.isSl Ac<|Ae 1 Z<|A5 ?_
   have hlr:=hShR.len
   have je:=(hShR.row r oM).len
   refine AQ (S:=Nat×List (List Value)×List (List<|Sr)) (fun(⟨k,VK,MK⟩:Nat×List (List Value)×List (List<|Sr))=>([(131,zI (k:Int)),(6,zI (a.length:Int)),(7,vo),(10,zI (c:Int)),(14,zI (r:Int)),(15,(VR.getD r []).getD c undef),(42,zI (a.length:Int)),(43,zI (c:Int)),(112,zI (a.length:Int)),(113,zI (r:Int)),(130,zI (((VR.getD r []).length:Nat):Int))])) (fun(⟨k,VK,MK⟩:Nat×List (List Value)×List (List<|Sr)) (W:World)=>AB w W∧Fr (AY (AY rV 27) 30) w.heap.size w2.heap.size W.heap vo VK∧(SM 2 a.length w.heap.size w2.heap.size W.heap.size (fun r0=>(1≤c∨r0=c∨r0<r)∨(r0=r∧a.length<k)) W.heap VK MK)∧UT w.heap.size w2.heap.size W.heap ((VR.getD r []).getD c undef) ((MR.getD r []).getD c [])∧k≤a.length+1∧(r<a.length∧Hid (r≠c))∧Sh (BN N) [] a.length (a.length+1) MK∧Hid (MK=Jj c r k MR)∧w2.heap.size≤W.heap.size) (fun(⟨k,VK,MK⟩:Nat×List (List Value)×List (List<|Sr))=>a.length+1-k) (0,VR,MR) ⟨rfl,rfl,rfl,rfl,rfl,rfl,rfl,rfl,rfl,rfl,rfl,trivial⟩ ⟨bm,a1,Zd,bn,sD,(by exact⟨zO,DZ oM⟩),hShR,(by exact DZ (Uw oM).symm),oM⟩ ?_
   clear g7 de df dg jd ca g9 cn bn gb di gd hL58_1 a1 bm g8 ga ge
   rintro⟨k,VK,MK⟩ ρ65 mf ⟨dj,a2,a5,bo,jf,hrn,hShK,hK,km⟩
   have kn:w.heap.size≤mf.heap.size:=dj.size
   refine qS [0] Z ?_
   by_cases gf:(k:Int)<(((VR.getD r []).length:Nat):Int)
   ·refine Ay true Z Z (A7 gf) Ac<|Ai<|A0<|Ag Z<|A4<|A0<|A5<|qS [0,0] Z<|Ae 2 Z<|AW _ [0,0,0,1,0,0,0,0,1,0,0,1,0,0,0,0,1,0,0,1,3,3,0,4] mixed (by kernel_rfl) ?_
    have lz:=hrn.2.out
    have m0:=a5.len
    have m1:=a5.row r oM
    have m2:=a5.row c oM
    have hfa:=(hShR.row r oM).val c oM
    have hxa:=(hShK.row r oM).val k oM
    have hya:=(hShK.row c oM).val k oM
    have hfal:=hfa.1
    have hxal:=hxa.1
    have hyal:=hya.1
    refine Af 2 Z<|Aw (v:=vo) r Ds DX Z Z a2.isSl Z sD Ac ?_
    obtain⟨dk,gg,gh⟩:=a2.rdV2.get (k:=r) [] sD
    have ko:=gh.lenle
    refine Al (p:=Ax vo r 1) (.inl Z) dk DY Z gg Ac<|Af 3 Z<|Aw (v:=vo) r Ds DX Z Z a2.isSl Z sD Ac ?_
    obtain⟨dl,gi,cb⟩:=a2.rdV2.get (k:=r) [] sD
    have kp:=cb.lenle
    refine Al (p:=Ax vo r 1) (.inl Z) dl DY Z gi Ac<|Af 1 Z<|Aw (v:=dl) k Bn AU Z Z cb.isSl Z sD Ac ?_
    have gj:=cb.getV (k:=k) sD
    have co:=a5.ser r k oM oM
    have kq:=co.rd.lenle
    refine Al (p:=Ax dl k 1) (.inl Z) ((VK.getD r []).getD k undef) B7 Z gj.1 Ac<|Af 3 Z<|Aw (v:=vo) c Ds DX Z Z a2.isSl Z sD Ac ?_
    obtain⟨dm,gk,cc⟩:=a2.rdV2.get (k:=c) [] sD
    have kr:=cc.lenle
    refine Al (p:=Ax vo c 1) (.inl Z) dm DY Z gk Ac<|Af 1 Z<|Aw (v:=dm) k Bn AU Z Z cc.isSl Z sD Ac ?_
    have gl:=cc.getV (k:=k) sD
    have bp:=a5.ser c k oM oM
    have ks:=bp.rd.lenle
    refine Al (p:=Ax dm k 1) (.inl Z) ((VK.getD c []).getD k undef) B7 Z gl.1 Ac<|As 179 [] [] [(VR.getD r []).getD c undef,(VK.getD c []).getD k undef] Z Z Rb Ac (DM _ _ _ _ _ bo.rd bp.rd oM oM hfa.2 hya.2) ?_
    rintro nf ng ⟨gm,rfl,a3,aj⟩
    refine⟨_,rfl,a3,?_⟩
    replace a3:=a3.of_drew
    have kt:=a3.size
    have jg:=dj.trans a3
    have ax:=a2.ext (Qk) a3
    have ay:=a5.ext a3
    have az:=bo.ext a3
    have cd:=gh.ext gV a3
    have gn:=AR a3 gg
    have ce:=cb.ext gV a3
    have go:=AR a3 gi
    have ak:=co.ext a3
    have cf:=cc.ext gV a3
    have gp:=AR a3 gk
    have bq:=bp.ext a3
    replace aj:=aj.low (B':=mf.heap.size)<|A9 _
    refine As 178 [] [] [(VK.getD r []).getD k undef,gm] Z Z Yx Ac (GA _ _ _ _ _ ak.rd aj.rd1 oM (by rw[FF];omega) (by rw[FF];omega) hxa.2 (by exact FG _ _)) ?_
    rintro nh my ⟨cp,rfl,a6,br⟩
    refine⟨_,rfl,a6,?_⟩
    have ku:=a6.size
    have gq:=jg.trans a6
    have b0:=ax.ext (Qk) a6
    have b1:=ay.ext a6
    have b2:=az.ext a6
    have cg:=cd.ext gV a6
    have gr:=AR a6 gn
    have i2:=ce.ext gV a6
    have kv:=AR a6 go
    have bs:=ak.ext a6
    have i3:=cf.ext gV a6
    have kw:=AR a6 gp
    have bt:=bq.ext a6
    have b3:=aj.ext (o1) a6
    refine Aw (v:=dk) k Bn AU Z Z cg.isSl Z sD Ac ?_
    refine SJ (v:=vo) (u:=dk) (a:=cp) (w:=my) KS Z Z (Bl br.isSl) b0 sD gr sD Ac fun mg ni al m3 ao jh=>?_
    have ji:AB w mg:=al.below gq (fun c hc=>Aa (A9 _) (ao c hc).1) gq.size
    have kx:=al.size
    have jj:=b1.chg al fun c hc=>zH<|ao c hc
    have jk:=b2.chg al fun c hc=>zH<|ao c hc
    have m4:=bs.chg al fun c hc=>zH<|ao c hc
    have m5:=bt.chg al fun c hc=>zH<|ao c hc
    have m6:=b3.chg (o1) al fun c hc=>zH<|ao c hc
    have jl:=br.chg (o1) al fun c hc=>zH<|ao c hc
    have jm:=jj.put (r:=r) (k:=k) (T':=mg.heap.size) oM oM jl oM oM oM oM
    refine Ai<|Ad _ [0,0] Z<|AG ((k+1:Nat):Int) Z Z (Bd oM sD) Ac<|Ae 1 Z ?_
    exact⟨(k+1,VK.set r ((VK.getD r []).set k cp),MK.set r ((MK.getD r []).set k (DJ ((MK.getD r []).getD k []) (Ci ((MR.getD r []).getD c []) ((MK.getD c []).getD k []))))),_,rfl,zR,⟨ji,jh,(by exact jm.weak (fun r0 hr0 h0=>by first|omega|(dsimp only at h0 ⊢;omega)) oM),jk,sD,hrn,(by exact hShK.put oM ((Rw N).t _ _ _ hxa hfa hya)),(by exact DZ (by have h:=Ux (c:=c) (k:=k) hlr je oM oM hrn.2.out;rw[← hK.out]at h;exact h)),oM⟩,zD⟩
   refine Ay false Z Z (A8 gf) Ac<|Ai<|A0<|Aj Z<|A6<|Au<|Au<|An<|Ad _ [0,0] Z<|AG ((r+1:Nat):Int) Z Z (Bd oM sD) Ac<|Ae 1 Z ?_
   exact⟨(r+1,VK,MK),_,rfl,zR,⟨dj,a2,(by exact a5.weak (fun r0 hr0 h0=>by first|omega|(dsimp only at h0 ⊢;omega)) oM),sD,(by first|exact hShR|exact hShK),eY,oM⟩,zD⟩
  refine Ay false Z Z (A8 df) Ac<|Ai<|A0<|Aj Z<|A6<|Au<|Au<|An<|Ad _ [0,0] Z<|AG ((c+1:Nat):Int) Z Z (Bd oM sD) Ac<|Ae 1 Z ?_
  exact⟨(c+1,VR,MR),_,rfl,zR,⟨bm,a1,Zd,sD,hShR,(by exact DZ (by have h:=Qw hJ.out oM (by rw[← c5.out];omega);rw[← c5.out]at h;have e:=hR.out;rw[DS (by simp[Cq,hlD.out]) (by rw[hlD.out];omega)]at e;rw[e];exact h)),oM⟩,zD⟩
 refine Ay false Z Z (A8 d0) Ac<|Ai<|A0<|Aj Z<|A6<|Au<|Au<|An<|qS [3,0] Z (BS (rV) Bc Bn AU Ac fun mz nj bu jn gs=>?_)
 have gt:=bu.size
 have gu:=bd.trans bu
 have ab:=ac.ext (Qk) bu
 have ah:=a7.ext bu
 refine Ae 1 Z<|A0<|qS [0,0,0] Z<|Af 1 Z<|AN (v:=vo) Ds Z ab.isSl Ac<|Ae 1 Z<|A5 ?_
 have hsome:=Ta hJ.out oM
 refine AQ (S:=Nat×Value) (fun⟨i,vz⟩=>([(17,vz),(163,zI (i:Int)),(6,zI (a.length:Int)),(161,vo),(162,zI (VM.length:Int))])) (fun⟨i,vz⟩ W=>AB w W∧Fr (AY rV 27) f1.heap.size W.heap.size W.heap vz ((VM.take i).map fun r=>r.getD a.length undef)∧SM 2 a.length w.heap.size w2.heap.size f1.heap.size (fun _=>1≤c) W.heap VM M∧Fr (AY (AY rV 27) 30) w.heap.size w2.heap.size W.heap vo VM∧i≤a.length∧f1.heap.size≤W.heap.size∧w2.heap.size≤W.heap.size) (fun⟨i,vz⟩=>a.length-i) (0,mz) ⟨rfl,rfl,rfl,rfl,rfl,trivial⟩ ⟨gu,gs.up oV,ah,ab,sD,oM,oM⟩ ?_
 clear a7 ac gs jn bu gt gu ab ah
 rintro⟨i,vz⟩ ρ89 f2 ⟨dn,bv,ag,ap,jo,ky,kz⟩
 have l0:w.heap.size≤f2.heap.size:=dn.size
 refine qS [0] Z ?_
 by_cases gv:(i:Int)<(VM.length:Int)
 ·refine Ay true Z Z (A7 gv) Ac<|Ai<|A0<|Ag Z<|A4<|A0<|A5<|qS [0,2,0] Z ?_
  have m7:=ag.len
  refine Aw (v:=vo) i Ds DX Z Z ap.isSl Z sD Ac ?_
  obtain⟨dp,gw,ch⟩:=ap.rdV2.get (k:=i) [] sD
  have l1:=ch.lenle
  refine Al (p:=Ax vo i 1) (.inr Z) dp DY Z gw Ac<|Ae 1 Z<|Ad _ [0,0,0,0,2,3,4,0] Z ?_
  have m8:=ag.row i oM
  refine Af 3 Z<|Aw (v:=dp) a.length Bn AU Z Z ch.isSl Z sD Ac ?_
  have gx:=ch.getV (k:=a.length) sD
  have bw:=ag.ser i a.length oM oM
  have l2:=bw.rd.lenle
  refine Al (p:=Ax dp a.length 1) (.inr Z) ((VM.getD i []).getD a.length undef) B7 Z gx.1 Ac (Bs (u:=(VM.getD i []).getD a.length undef) (B:=f2.heap.size) Bc Bn AU Z Z (LR f2.heap.size f2.heap.size _<|Bl bw.rd.isSl) (A9 _) Ac fun n0 nk am m9 jp=>?_)
  have l3:=am.size
  have gy:=dn.trans am
  have b4:=bv.ext (oV) am
  have b5:=ag.ext am
  have b6:=ap.ext (Qk) am
  have i4:=ch.ext gV am
  have l4:=AR am gw
  have gz:=bw.ext am
  refine MO (v:=vz) (a:=n0) Bn AU Z Z Z b4 oM jp.rdV1 sD Rg Ac fun n1 n2 nl ci dq jq=>?_
  have jr:AB w n2:=ci.below gy (fun c hc=>Aa bd.size (dq c hc).1) gy.size
  have l5:=ci.size
  have js:=b5.chg2 ci fun c hc=>zH<|dq c hc
  have jt:=b6.chg (Qk) ci fun c hc=>zH<|dq c hc
  refine Ae 1 Z<|Ad _ [0,0] Z<|AG ((i+1:Nat):Int) Z Z (Bd oM sD) Ac<|Ae 1 Z ?_
  exact⟨(i+1,n1),_,rfl,zR,⟨jr,(by rw[Dq [] oM];exact jq.up oV),js,jt,sD,oM,oM⟩,zD⟩
 refine Ay false Z Z (A8 gv) Ac<|Ai<|A0<|Aj Z<|A6<|Au<|Au<|An<|qS [0,0,0] Z<|Ae 3 Z<|A3 ?_
 obtain⟨Fc,ma,mb,dt⟩:=ag.cols (fun r0 hr0=>zD)
 exact Ah [4,5] Z (.tuple #[vz,.bool true]) Z ⟨vz,(by rw[hsome];rfl),dn,(by have h:=bv.up oV;rw[za oM]at h;rw[Tb hsome];exact Vc h ma mb (fun b hb=>zH<|dt b hb) oM)⟩
theorem JK (w:World)(vy:Value)(y:List (Sr))(va:Value)(a:List (List (Sr)))(vb:Value)(b:List (Sr))(hy:Rd (B3 (B3 rI)) w.heap vy y)(ha:Rd (B3 (B3 (B3 rI))) w.heap va a)(hb:Rd (B3 (B3 rI)) w.heap vb b)(hP:∃N,ID a b N∧BC N y∧y.length=a.length) :
  Calls Tryz.prog 94 #[vy,va,vb] w (fun e w'=>∃v0:Value,e=.returned (.tuple #[v0,.bool ((CR a b).isSome)])∧AB w w'∧Fr (AY (AY rI 2) 27) w.heap.size w'.heap.size w'.heap v0 (nX y a b)):=by
 refine At [vy,va,vb] 40 Tryz.func94 Z Z sM ?_
 have ai:AB w w:=AB.refl w
 have bn:=hy.lenle
 have bo:=ha.lenle
 have bp:=hb.lenle
 obtain⟨N,hP,hsy,hyl⟩:=hP
 have h6:=hP.n6
 have hbl:=hP.bl
 have b8:=hP.n1
 have b9:=hP.n13
 refine qS [0,0] Z<|Ae 2 Z<|qS [0,0,3,0,0,0,0,0] Z<|Af 2 Z<|As 92 [] [] [va,vb] Z Z kX Ac (JJ _ _ _ _ _ (ha.ext g3 ai) (hb.ext g2 ai) oM hbl hP.row (by exact⟨N,b8,zO,hP.sh⟩)) ?_
 rintro e1 w1 ⟨a0,rfl,aj,a8⟩
 refine⟨_,rfl,aj,?_⟩
 have ba:=aj.size
 have ak:=ai.trans aj
 refine Af 1 Z<|AI (vs:=[a0,.bool<|(CR a b).isSome]) a0 Z Z Ac<|AI (vs:=[a0,.bool<|(CR a b).isSome]) (.bool<|(CR a b).isSome) Z Z Ac<|Ae 2 Z<|A0<|qS [0,0] Z<|Af 1 Z<|BH (!((CR a b).isSome)) Z Z Ac<|Ai ?_
 cases aw:(!((CR a b).isSome))
 ·refine Aj (by first|rfl|exact zW aw)<|A4<|qS [3,0] Z ?_
  have hjo:(CR a b).isSome=true:=by simpa using ‹(!(CR a b).isSome)=false›
  have hss:=QF hP<|gR hjo
  refine BS (AY rI 2) o1 Bn AU Ac fun v3 w3 al bb ax=>?_
  have am:=al.size
  have ay:=ak.trans al
  have a1:=a8.ext (o2) al
  refine Ae 1 Z<|A0<|qS [0,0,0] Z<|Af 1 Z<|AN (v:=vy) Bn Z hy.isSl Ac<|Ae 1 Z<|A5 ?_
  refine AQ (S:=Nat×Value) (fun⟨k,vo⟩=>([(10,vo),(24,zI (k:Int)),(8,a0),(22,vy),(23,zI (y.length:Int))])) (fun⟨k,vo⟩ W=>AB w W∧Fr (AY (AY rI 2) 27) w1.heap.size W.heap.size W.heap vo ((TM a y b).take k)∧Fr (AY (AY rI 2) 27) w.heap.size w1.heap.size W.heap a0 (G6 a b)∧k≤y.length∧w1.heap.size≤W.heap.size) (fun⟨k,vo⟩=>y.length-k) (0,v3) ⟨rfl,rfl,rfl,rfl,rfl,trivial⟩ ⟨ay,ax.up o2,a1,sD,oM⟩ ?_
  clear ai a8 aj ax bb al am ay a1
  rintro⟨k,vo⟩ ρ4 w4 ⟨ac,a9,a3,az,bc⟩
  have bd:w.heap.size≤w4.heap.size:=ac.size
  refine qS [0] Z ?_
  by_cases b0:(k:Int)<(y.length:Int)
  ·refine Ay true Z Z (A7 b0) Ac<|Ai<|A0<|Ag Z<|A4<|A0<|A5<|qS [0,0,2,0,0] Z<|Af 1 Z<|Aw (v:=vy) k Bn AU Z Z hy.isSl Z sD Ac ?_
   obtain⟨b1,be,b2⟩:=hy.get (k:=k) [] sD
   have bf:=b2.lenle
   refine Al (p:=Ax vy k 1) (.inr Z) b1 B7 Z (AR ac be) Ac<|Ae 2 Z<|Ad _ [0,0,0,0,0,2,3,3,4,0] Z ?_
   have hyk:=hsy k oM
   have hsk:=hss.2 k oM
   have bg:=hyk.1
   have bh:=hsk.1
   refine Af 4 Z<|Aw (v:=a0) k Bn AU Z Z a3.isSl Z sD Ac ?_
   obtain⟨b3,b4,an⟩:=a3.rd2.get (k:=k) [] sD
   have bi:=an.lenle
   refine Al (p:=Ax a0 k 1) (.inr Z) b3 B7 Z b4 Ac<|As 178 [] [] [b1,b3] Z Z Yx Ac (GA _ _ _ _ _ (b2.ext g1 ac) an oM oM oM hyk.2 hsk.2) ?_
   rintro e9 w9 ⟨ao,rfl,aa,ad⟩
   refine⟨_,rfl,aa,?_⟩
   have bj:=aa.size
   have bk:=ac.trans aa
   have a6:=a9.ext (o2) aa
   have a7:=a3.ext (o2) aa
   have ae:=an.ext g1 aa
   have af:=AR aa b4
   refine Bs (u:=ao) (B:=w4.heap.size) o1 Bn AU Z Z ad (by first|exact A9 _|omega) Ac fun br bs a2 bm ap=>?_
   have b5:=a2.size
   have ag:=bk.trans a2
   have a4:=a6.ext (o2) a2
   have a5:=a7.ext (o2) a2
   have aq:=ae.ext g1 a2
   have b6:=AR a2 af
   refine Ez o1 (v:=vo) (a:=br) Bn AU Z Z Z a4 oM ap oM oM sD (by unfold maxLen;first|omega|assumption|(simp;done)|(simp;omega)) Ac fun bt bq bu ab ah ar=>?_
   have au:AB w bq:=ab.below ag (fun c hc=>Aa ak.size (ah c hc).1) ag.size
   have b7:bs.heap.size≤bq.heap.size:=ab.size
   have av:=a5.chg (o2) ab fun c hc=>zH<|ah c hc
   refine Ae 1 Z<|Ad _ [0,0] Z<|AG ((k+1:Nat):Int) Z Z (Bd oM sD) Ac<|Ae 1 Z ?_
   exact⟨(k+1,bt),_,rfl,zR,⟨au,(by rw[Cp [] (by rw[Je];omega),S6 oM];exact ar.up o2),av,sD,oM⟩,zD⟩
  exact Ay false Z Z (A8 b0) Ac<|Ai<|A0<|Aj Z<|A6<|Au<|Au<|An<|qS [0,0,0] Z<|Ae 3 Z<|A3<|Ah [6,7] Z (.tuple #[vo,.bool true]) Z ⟨vo,(by rw[hjo]),ac,(by have h:=(a9.up o2).low ak.size;rw[Ya hjo];rwa [za (by rw[Je];omega)]at h)⟩
 refine Ag (by first|rfl|exact zW aw)<|qS [0,0] Z<|Ae 2 Z<|A3<|Ap ?_
 have hjo:(CR a b).isSome=false:=by simpa using ‹(!(CR a b).isSome)=true›
 exact Ah [6,7] Z (.tuple #[zN,.bool false]) Z ⟨zN,(by rw[hjo]),ak,(by rw[kN hjo];exact Ju _ _ _)⟩
theorem L3 (w:World)(dp:Nat)(vp:Value)(p:List Fn)(f:Int)(vy:Value)(y:List (Sr))(hp:RP [] dp w.heap vp p)(_hf:BI f)(hy:RN [] (B3 (B3 rI)) w.heap vy y)(hqy:Cj vy)(hz:Px p) :
  Calls Tryz.prog 18 #[(.agg #[vp]),zI f,vy] w (fun e w'=>∃v0:Value,e=.returned (.tuple #[v0,zI (Rk p f y)])∧AB w w'∧Fr (AY (AY rI 2) 27) w.heap.size w'.heap.size w'.heap v0 (bD p f y)):=by
 refine At [.agg #[vp],zI f,vy] 42 Tryz.func18 Z Z sM ?_
 have aq:AB w w:=AB.refl w
 have b4:=hp.lenle
 unfold maxLen at b4
 have b5:=hy.lenL
 unfold maxLen at b5
 refine qS [3,0,0] Z (C8 (cs:=#[vp]) Z Ac fun w1 al b1 a9=>?_)
 have ar:=al.size
 have af:=aq.trans al
 replace a9:BX w1.heap w.heap.size [vp]:=a9
 refine Ae 2 Z<|A0<|qS [2,0,0,3,0] Z<|AZ (p:=zP w.heap.size) (.inr Z) [vp] CL Z (fun b6 ag=>LD.of_box<|BX.ext (w:=w1) a9 ag) Z Ac<|Af 2 Z<|As 95 [] [] [.agg #[vp],zI f,vy] Z Z kZ Ac (IX _ dp vp (p) _ vy (y) (hp.ext (Am<|AC dp) af) _hf (hy.ext g2 af) hqy hz) ?_
 rintro e2 w2 ⟨rfl,aa⟩
 refine⟨_,rfl,aa,?_⟩
 have au:=aa.size
 have ab:=af.trans aa
 have a2:=a9.ext aa
 refine Ae 1 Z<|qS [0,0] Z<|Af 1 Z ?_
 by_cases am:Nw p f y≠((0:Nat):Int)
 ·refine B4 true Z Z (A7 am) Ac<|Ai<|Ag Z<|qS [0,0,0] Z<|Ae 3 Z<|A3<|Ap ?_
  have hgn:Nw p f y≠0:=by omega
  have hcn:LA p f y≠0:=by rw[TD hgn];exact hgn
  exact Ah [6,7] Z (.tuple #[zN,zI<|Nw p f y]) Z ⟨zN,(by rw[TV hcn,TD hgn]),ab,(by rw[Ye (by rw[TV hcn];exact hcn)];exact Ju _ _ _)⟩
 refine B4 false Z Z (A8 am) Ac<|Ai<|Aj Z<|A4<|qS [2,0,0,3,0,0,0,0,0,0,0] Z ?_
 have a3:Nw p f y=0:=by omega
 have ac:=XX a3
 have b7:=Fu ac.1
 have hsy:=ac.2.2.2.2.1
 have hyl:=(hsy 0 oM).1
 have hIm:=gW a3
 refine AZ (p:=zP w.heap.size) (.inr Z) [vp] CL Z (fun b6 ag=>LD.of_box<|BX.ext (w:=w2) a2 ag) Z Ac<|Af 2 Z<|As 88 [] [] [.agg #[vp],zI f,vy] Z Z bG Ac (CB _ dp vp (p) (f) vy (y) (hp.ext (Am<|AC dp) ab) _hf (hy.ext g2 ab) hqy ac.1 hz oM ac.2.2.2.1.2 hsy oM) ?_
 rintro e4 w4 ⟨lv4,lu4,lc4,rfl,ah,av,aw,a4⟩
 refine⟨_,rfl,ah,?_⟩
 have ax:=ah.size
 have ad:=ab.trans ah
 refine Af 1 Z<|AI (vs:=[lv4,lu4,zI lc4]) lv4 Z Z Ac<|AI (vs:=[lv4,lu4,zI lc4]) lu4 Z Z Ac<|AI (vs:=[lv4,lu4,zI lc4]) (zI lc4) Z Z Ac<|Ae 3 Z<|A0<|qS [0,0] Z<|Af 1 Z ?_
 by_cases an:lc4≠((0:Nat):Int)
 ·refine B4 true Z Z (A7 an) Ac<|Ai<|Ag Z<|qS [0,0,0] Z<|Ae 3 Z<|A3<|Ap ?_
  have hcn:LA p f y≠0:=by rw[Nx a3];omega
  exact Ah [6,7] Z (.tuple #[zN,zI lc4]) Z ⟨zN,(by rw[TV hcn,Nx a3,← ‹_=H2 p (E1 y+1) f.toNat (Cc y)›]),ad,(by rw[Ye (by rw[TV hcn];exact hcn)];exact Ju _ _ _)⟩
 refine B4 false Z Z (A8 an) Ac<|Ai<|Aj Z<|A4<|qS [0,0,0,3,0,0,0,0,0] Z ?_
 obtain⟨ay,b2,T4,b8,s4,a5,ai,az,b3⟩:=a4 oM
 clear a4 ai
 have a6:=ay.rd
 have a1:=az.rd3
 have ae:LA p f y=0:=by rw[Nx a3];omega
 have hrc:=hIm.rc Z a5
 have hsys:=PS hIm hrc oM hsy Z
 have hjor:=Sb hIm hrc oM hsy Z
 have hsl:=gS (m:=E1 y+1) a5
 rw[hsl]at hsys hjor a1
 refine Af 3 Z<|As 94 [] [] [vy,lu4,lv4] Z Z kY Ac (JK _ _ _ _ _ _ _ (hy.ext g2 ad).rd a1 a6 (by exact⟨_,hsys.1,hsy,by rw[hsys.2.2.2.2.1,hsys.2.2.2.2.2]⟩)) ?_
 rintro e6 w6 ⟨a0,rfl,a7,a8⟩
 refine⟨_,rfl,a7,?_⟩
 have b0:=a7.size
 have ao:=ad.trans a7
 have aj:=a6.ext g2 a7
 have ak:=a1.ext g3 a7
 refine Af 1 Z<|AI (vs:=[a0,.bool<|(CR (GS<|Yc p (E1 y+1) f.toNat<|Cc y)<|CS p (E1 y+1) f.toNat<|Cc y).isSome]) a0 Z Z Ac<|AI (vs:=[a0,.bool<|(CR (GS<|Yc p (E1 y+1) f.toNat<|Cc y)<|CS p (E1 y+1) f.toNat<|Cc y).isSome]) (.bool<|(CR (GS<|Yc p (E1 y+1) f.toNat<|Cc y)<|CS p (E1 y+1) f.toNat<|Cc y).isSome) Z Z Ac<|Ae 2 Z<|A0<|qS [0,0] Z<|Af 1 Z<|BH (!((CR (GS<|Yc p (E1 y+1) f.toNat<|Cc y)<|CS p (E1 y+1) f.toNat<|Cc y).isSome)) Z Z Ac<|Ai ?_
 cases ap:(!((CR (GS (Yc p (E1 y+1) f.toNat (Cc y))) (CS p (E1 y+1) f.toNat (Cc y))).isSome))
 ·refine Aj (by first|rfl|exact zW ap)<|A4<|qS [0,0,0] Z<|Ae 3 Z<|A3 ?_
  have hdt:DD (FP p f.toNat (BF y))≠0:=dM (by rw[← hjor];assumption)
  have hjo:(CR (GS (Yc p (E1 y+1) f.toNat (Cc y))) (CS p (E1 y+1) f.toNat (Cc y))).isSome=true:=by rw[hjor,A8 hdt];rfl
  exact Ah [6,7] Z (.tuple #[a0,zI ((0:Nat):Int)]) Z ⟨a0,(by rw[Yd ae hdt];rfl),ao,(by rw[dI<|Yd ae hdt,← Ya hjo];exact(a8.up o2).low ad.size)⟩
 refine Ag (by first|rfl|exact zW ap)<|qS [0,0] Z<|Ae 2 Z<|A3<|Ap ?_
 have hdt:DD (FP p f.toNat (BF y))=0:=dL (by rw[← hjor];assumption)
 exact Ah [6,7] Z (.tuple #[zN,zI ((6:Nat):Int)]) Z ⟨zN,(by rw[dH ae hdt];rfl),ao,(by rw[Ye (by rw[dH ae hdt];decide)];exact Ju _ _ _)⟩
theorem HE (w:World)(vs:Value)(s:Sr)(hs:Rd (B3 rI) w.heap vs s)(h1:0<s.length) :
  Calls Tryz.prog 91 #[vs] w (fun e w'=>e=.returned (.bool (s.getD 0 0 != 0))∧AB w w'):=by
 refine At [vs] 7 Tryz.func91 Z Z sM ?_
 have a0:AB w w:=AB.refl w
 have a1:=hs.lenle
 refine qT Z<|qS [0,0,2,0,0] Z<|Af 1 Z<|Aw (v:=vs) 0 Bm BM Z Z hs.isSl Z sD Ac ?_
 exact Al (p:=Ax vs 0 1) (.inr Z) (zI<|s.getD 0 0) AO Z (AR a0 (hs.getI sD).1) Ac<|B4 (decide (s.getD 0 0≠((0:Nat):Int))) Z Z Z Ac<|Ae 1 Z<|A3<|Ah [2] Z (.bool<|decide (s.getD 0 0≠((0:Nat):Int))) Z ⟨AF (by show decide (s.getD 0 0≠0)=(s.getD 0 0 != 0);by_cases h9:s.getD 0 0=0;(rw[h9];rfl);(rw[A7 h9];exact(bne_iff_ne.2 h9).symm)),a0⟩
theorem Uf {p:Prop}(h:p:=by rw[KP (by rw[hcf];decide)];exact Ju _ _ _):p:=h
theorem It (w:World)(dp:Nat)(vp:Value)(p:List Fn)(f:Int)(va:Value)(a:Sr)(order:Int)(hp:RP [] dp w.heap vp p)(_hf:BI f)(ha:Rd (B3 rI) w.heap va a)(_horder:BI order)(hz:Px p) :
  Calls Tryz.prog 16 #[(.agg #[vp]),zI f,va,zI order] w (fun e w'=>∃v0:Value,e=.returned (.tuple #[v0,zI (Ny p f a order)])∧AB w w'∧Fr (AY (AY rI 2) 27) w.heap.size w'.heap.size w'.heap v0 (DP p f a order)):=by
 refine At [.agg #[vp],zI f,va,zI order] 91 Tryz.func16 Z Z sM ?_
 have cx:AB w w:=AB.refl w
 have dm:=hp.lenle
 unfold maxLen at dm
 have dq:=ha.lenle
 refine qS [3,0,0] Z (C8 (cs:=#[vp]) Z Ac fun w1 ch d7 cf=>?_)
 have ci:=ch.size
 have cj:=cx.trans ch
 replace cf:BX w1.heap w.heap.size [vp]:=cf
 refine Ae 2 Z<|qS [2,0,3,0] Z<|AZ (p:=zP w.heap.size) (.inr Z) [vp] CL Z (fun dr bg=>LD.of_box<|BX.ext (w:=w1) cf bg) Z Ac<|Af 1 Z<|As 85 [] [] [.agg #[vp],zI f] Z Z kV Ac (GY _ dp vp (p) _ (hp.ext (Am<|AC dp) cj) _hf hz) ?_
 rintro e2 w2 ⟨rfl,bh⟩
 refine⟨_,rfl,bh,?_⟩
 have ck:=bh.size
 have be:=cj.trans bh
 have ay:=cf.ext bh
 refine Ae 1 Z<|A0<|qS [0,0,0,0,0,2,0,0,0,2,0,3,0,0,0,3,0,0,0] Z<|Af 1 Z ?_
 by_cases cy:Gg p f D2=((0:Nat):Int)
 ·refine Av true Z Z (A7 cy) Ac<|Af 2 Z ?_
  have d8:=R5 (p:=p) (f:=f) oM
  refine Aq (p:=zP w.heap.size) 0 BQ Z Z (Ak (e:=22) Z Z Z)<|Al (p:=AA (zP w.heap.size) 0) (.inr Z) vp Cr Z (ay.ldp (i:=0) sM) (Ak (e:=22) Z Z Z)<|Af 1 Z<|Aw (v:=vp) ((f).toNat) H6 CM Z Z hp.isSl oM sD (Ak (e:=22) Z Z Z) ?_
  obtain⟨cs4,d9,cz⟩:=hp.get (AC dp) Fn.zero (k:=(f).toNat) sD
  obtain⟨dh,rfl,da⟩:=RF.of d9
  have bi:=da.rn.lenle
  unfold maxLen at bi
  refine AP (p:=Ax vp ((f).toNat) 3) 1 CG Z (cz _<|Az.of_ext [] be) (Ak (e:=22) Z Z Z)<|Al (p:=AA (Ax vp ((f).toNat) 3) 1) (.inr Z) (zI<|(p.getD ((f).toNat) Fn.zero).params) AO Z ((cz _<|Az.of_ext [] be).ld (i:=1) (by simp[Dd,FU])) (Ak (e:=22) Z Z Z)<|Cb ((p.getD f.toNat Fn.zero).params-1) Z Z (Dh oM oM) (Ak (e:=22) Z Z Z)<|As 86 [] [] [va,zI ((p.getD f.toNat Fn.zero).params-1)] Z Z iJ (Ak (e:=22) Z Z Z) (EL _ _ _ _ (ha.ext g1 be) oM) ?_
  rintro e5 w5 ⟨rfl,bj⟩
  refine⟨_,rfl,bj,?_⟩
  have cl:=bj.size
  have cm:=be.trans bj
  have bk:=ay.ext bj
  refine BH (!(decide ((a.length:Int)=((p.getD f.toNat Fn.zero).params-1)) && B9 a)) Z Z (Ak (e:=22) Z Z Z)<|Af 1 Z ?_
  cases db:(!(decide ((a.length:Int)=((p.getD f.toNat Fn.zero).params-1)) && B9 a))
  ·refine Af 1 Z<|As 87 [] [] [zI order] Z Z qF (Ak (e:=33) Z Z Z) (ND _ _ _horder) ?_
   rintro e7 w7 ⟨rfl,bm⟩
   refine⟨_,rfl,bm,?_⟩
   have cn:=bm.size
   have cg:=cm.trans bm
   have az:=bk.ext bm
   refine BH (!(decide (((0:Nat):Int)≤order) && decide (order≤((12:Nat):Int)))) Z Z (Ak (e:=33) Z Z Z)<|Ae 2 Z ?_
   cases d0:(!(decide (((0:Nat):Int)≤order) && decide (order≤((12:Nat):Int))))
   ·refine Aj (by first|rfl|exact zW d0)<|A4<|A0<|qS [0,0] Z<|Af 1 Z ?_
    have dc:¬(Gg p f D2≠((0:Nat):Int)):=oM
    refine B4 false Z Z (A8 dc) Ac<|Ai<|Aj Z<|A4<|A0<|AW _ [1,0,0,3,3,0,0,0,0,0,0,0] mixed (by kernel_rfl) ?_
    have bf:KO p f a order=0:=dJ oM (ES ‹(!(decide ((a.length:Int)=((p.getD f.toNat Fn.zero).params-1)) && B9 a))=false›) (show Gp order 0 12=true from ES ‹(!(decide (((0:Nat):Int)≤order) && decide (order≤((12:Nat):Int))))=false›)
    have hKP:=Yg bf
    have hIm:=hKP.1
    have db:=hIm.b
    have hpl:=hIm.l
    clear d8
    refine AZ (p:=zP w.heap.size) (.inl Z) [vp] CL Z (fun dr bg=>LD.of_box<|BX.ext (w:=w7.drew) az bg) Z Ac<|Af 2 Z<|As 89 [] [] [va] Z Z qG Ac (NE _ _ _ (ha.ext g1 cg.drew) sD) ?_
    rintro dt du ⟨b0,rfl,aa,a0⟩
    refine⟨_,rfl,aa,?_⟩
    replace aa:=aa.of_drew
    have bn:=aa.size
    have b5:=cg.trans aa
    have b6:=az.ext aa
    replace a0:=a0.low (B':=w7.heap.size)<|A9 _
    refine As 88 [] [] [.agg #[vp],zI f,b0] Z Z bG Ac (CB _ dp vp (p) (f) b0 (Cd a) (hp.ext (Am<|AC dp) b5) _hf (RN.of_fr2 a0 fun b hb=>absurd hb z2) a0.cap hKP.2.1 hz oM (by rw[IB];exact hpl) (by rw[IL (A9 1) (by rw[IB];omega)<|DL hIm.n];exact DL hIm.n) (by have h9:=IL (A9 1) (by rw[IB];omega) (DL hIm.n);rw[IB];omega)) ?_
    rintro dv dw ⟨lv11,lu11,lc11,rfl,ad,bo,d1,ak⟩
    refine⟨_,rfl,ad,?_⟩
    have bp:=ad.size
    have b7:=b5.trans ad
    have b8:=b6.ext ad
    have a1:=a0.ext (o2) ad
    have co:BC 1 (Cd a):=DL hIm.n
    have hsf:=Gy a
    have bq:=IL (A9 1) (by rw[IB];omega) co
    rw[bq]at ak
    have br:lc11=Et p f.toNat (0::a):=by rw[bo,bq,TT oM];rfl
    refine Af 1 Z<|AI (vs:=[lv11,lu11,zI lc11]) lv11 Z Z Ac<|AI (vs:=[lv11,lu11,zI lc11]) lu11 Z Z Ac<|AI (vs:=[lv11,lu11,zI lc11]) (zI lc11) Z Z Ac<|Ae 3 Z<|A0<|qS [0,0] Z<|Af 1 Z ?_
    by_cases bs:lc11≠((0:Nat):Int)
    ·refine B4 true Z Z (A7 bs) Ac<|Ai<|Ag Z<|qS [0,0,0] Z<|Ae 3 Z<|A3<|Ap ?_
     have hcn:Et p f.toNat (0::a)≠0:=by omega
     exact Ah [8,9] Z (.tuple #[zN,zI lc11]) Z ⟨zN,(by rw[R8 bf hcn,← ‹_=Et p f.toNat (0::a)›]),b7,(by rw[KP (by rw[R8 bf hcn];exact hcn)];exact Ju _ _ _)⟩
    refine B4 false Z Z (A8 bs) Ac<|Ai<|Aj Z<|A4<|A0<|qS [0,3] Z ?_
    obtain⟨cp,dd,dn,dj,dx,bt,bu,cq,de⟩:=ak oM
    clear ak bu
    have b1:=cp.rd
    have bv:=cq.rd3
    have al:=hIm.rc hsf bt
    have cr:Et p f.toNat (0::a)=0:=by omega
    have am:=PS hIm al oM co hsf
    have b2:=Sb hIm al oM co hsf
    have hes:=am.2.2.2.1
    have hsP:=am.1
    clear am
    have hany:=gU p f.toNat (0::a)
    rw[← TT oM]at hany
    refine Af 1 Z<|As 90 [] [] [lv11,.func (.func 91) #[] #[]] Z Z kW Ac (Za _ _ _ 91 [] [] (fun s=>s.getD 0 0 != 0) b1 qH fun u j w1 hj hx hw=>HE w1 u _ hx (zH<|(hes j hj).1)) ?_
    rintro dy dz ⟨rfl,a6⟩
    refine⟨_,rfl,a6,?_⟩
    have bw:=a6.size
    have b9:=b7.trans a6
    have ba:=b8.ext a6
    have a2:=a1.ext (o2) a6
    have a7:=b1.ext g2 a6
    have a8:=bv.ext g3 a6
    refine Ai ?_
    cases bx:((CS p 1 f.toNat (Cc (Cd a))).any (fun s=>s.getD 0 0 != 0))
    ·refine Aj (by first|rfl|exact zW bx)<|A4<|A0<|qS [0,0,3,0,0,0,0,0] Z<|Af 2 Z<|As 92 [] [] [lu11,lv11] Z Z kX Ac (JJ _ _ _ _ _ a8 a7 (zH<|hsP.n6) hsP.bl hsP.row (by exact⟨1,zO,zO,hsP.sh⟩)) ?_
     rintro e0 e1 ⟨an,rfl,a9,ao⟩
     refine⟨_,rfl,a9,?_⟩
     have bz:=a9.size
     have ap:=b9.trans a9
     have bb:=ba.ext a9
     have a3:=a2.ext (o2) a9
     have aq:=a7.ext g2 a9
     have ar:=a8.ext g3 a9
     refine Af 1 Z<|AI (vs:=[an,.bool<|(CR (GS<|HG 1 dn dj (Cc<|Cd a) dj.length)<|CS p 1 f.toNat<|Cc<|Cd a).isSome]) an Z Z Ac<|AI (vs:=[an,.bool<|(CR (GS<|HG 1 dn dj (Cc<|Cd a) dj.length)<|CS p 1 f.toNat<|Cc<|Cd a).isSome]) (.bool<|(CR (GS<|HG 1 dn dj (Cc<|Cd a) dj.length)<|CS p 1 f.toNat<|Cc<|Cd a).isSome) Z Z Ac<|Ae 2 Z<|qS [0,0] Z<|Af 1 Z<|BH (!((CR (GS<|HG 1 dn dj (Cc<|Cd a) dj.length)<|CS p 1 f.toNat<|Cc<|Cd a).isSome)) Z Z Ac<|Ai ?_
     cases c0:(!((CR (GS (HG 1 dn dj (Cc (Cd a)) dj.length)) (CS p 1 f.toNat (Cc (Cd a)))).isSome))
     ·refine Aj (by first|rfl|exact zW c0)<|A4<|qS [0,0,3,0] Z ?_
      have hnz:(Eq p f.toNat (0::a)).any (fun x=>x != 0)=false:=by rw[hany];assumption
      have hdt:DD (FP p f.toNat a)≠0:=dM (by rw[← b2];assumption)
      have hini:=bB (o:=order.toNat) (m:=order.toNat+1) hIm hdt al hnz Z
      refine Af 2 Z<|As 93 [] [] [va,zI order] Z Z qI Ac (M7 _ _ _ _ (ha.ext g1 ap) _horder oM oM) ?_
      rintro e3 e4 ⟨c1,rfl,a4,au⟩
      refine⟨_,rfl,a4,?_⟩
      have c2:=a4.size
      have c3:=ap.trans a4
      have bc:=bb.ext a4
      have ae:=a3.ext (o2) a4
      have c4:=aq.ext g2 a4
      have c5:=ar.ext g3 a4
      have af:=ao.ext (o2) a4
      refine Ae 1 Z<|A0<|qT Z<|A5 ?_
      refine AQ (S:=Nat×Value×List (Sr)) (fun⟨r,vyy,ys⟩=>([(15,vyy),(16,zI (r:Int)),(1,zI f),(3,zI order),(4,zP w.heap.size)])) (fun⟨r,vyy,ys⟩ W=>AB w W∧Fr (AY (AY rI 2) 27) w.heap.size W.heap.size W.heap vyy ys∧BX W.heap w.heap.size [vp]∧1≤r∧r≤24∧BC (order.toNat+1) ys∧BF ys=a∧(∀j,j<a.length→Lo (min r (order.toNat+1)) (BD ys (L7 p f.toNat a order.toNat order.toNat) j))) (fun⟨r,vyy,ys⟩=>order.toNat+1-r) (1,c1,a.map fun x=>(List.replicate (order.toNat+1) 0).set 0 x) ⟨rfl,rfl,rfl,rfl,rfl,trivial⟩ ⟨c3,(au.up o2).low ap.size,bc,oM,oM,hini.1,hini.2.1,hini.2.2⟩ ?_
      clear cx d7 ch ci cj bh ck be bi bj cl cm bm cn cg a0 aa bn b5 ad bp b7 a1 br a6 bw b9 a2 ao a9 bz ap a3 au a4 c2 c3 ae af
      rintro⟨r,vyy,ys⟩ ρ18 ds ⟨ax,a5,ab,ct,cu,hys,hyf,hylo⟩
      have d2:w.heap.size≤ds.heap.size:=ax.size
      have df:=EI hyf
      have hoo:=IL oM oM hys
      have dg:=ab.lt
      refine A0<|qS [0,0,0] Z<|Af 2 Z ?_
      by_cases c6:(r:Int)≤order
      ·refine DF true Z Z (A7 c6) Ac<|Ai<|Ag Z<|A4<|A0<|A5<|qS [2,0,0,3,0,0,0,0,0,0,0] Z<|AZ (p:=zP w.heap.size) (.inr Z) [vp] CL Z (fun dr bg=>LD.of_box<|BX.ext (w:=ds) ab bg) Z Ac<|Af 2 Z<|As 88 [] [] [.agg #[vp],zI f,vyy] Z Z bG Ac (CB _ dp vp (p) (f) vyy (ys) (hp.ext (Am<|AC dp) ax) _hf (RN.of_fr2 a5 fun b hb=>absurd hb z2) a5.cap hKP.2.1 hz oM oM (by rw[hoo];exact hys) oM) ?_
       rintro e6 e8 ⟨lv21,lu21,lc21,rfl,av,c7,d3,aw⟩
       refine⟨_,rfl,av,?_⟩
       have d4:=av.size
       have c8:=ax.trans av
       have ag:=a5.ext (o2) av
       have ah:=ab.ext av
       rw[hoo]at aw
       have d5:lc21=0:=by rw[c7,hoo];exact TU hIm al oM hys hyf
       refine Af 1 Z<|AI (vs:=[lv21,lu21,zI lc21]) lv21 Z Z Ac<|AI (vs:=[lv21,lu21,zI lc21]) lu21 Z Z Ac<|AI (vs:=[lv21,lu21,zI lc21]) (zI lc21) Z Z Ac<|Ae 3 Z<|A0<|qS [0,0] Z<|Af 1 Z ?_
       by_cases c9:lc21≠((0:Nat):Int)
       ·exact absurd c9 oM
       refine B4 false Z Z (A8 c9) Ac<|Ai<|Aj Z<|A4<|Ad _ [0,0,0,3,0,0,0,0] Z ?_
       obtain⟨cp,dd,dk,di,e9,ca,cb,cq,de⟩:=aw oM
       clear aw cb
       have b3:=cp.rd
       have b4:=cq.rd3
       have hrcn:=hIm.rc hyf ca
       have hsysn:=PS hIm hrcn (m:=order.toNat+1) oM hys hyf
       have hjorn:=Sb hIm hrcn (m:=order.toNat+1) oM hys hyf
       rw[A8 hdt,Bool.not_false]at hjorn
       have hst:=bA hIm hrcn hdt hnz (m:=order.toNat+1) Z oM hys hyf oM hylo
       rw[← Ya hjorn]at hst
       have hPn:Hid (∃N,ID (GS (HG (order.toNat+1) dk di (Cc ys) di.length)) (CS p (order.toNat+1) f.toNat (Cc ys)) N∧BC N ys∧ys.length=(GS (HG (order.toNat+1) dk di (Cc ys) di.length)).length):=DZ ⟨_,hsysn.1,hys,by rw[hsysn.2.2.2.2.1,hsysn.2.2.2.2.2]⟩
       clear hsysn
       refine Af 3 Z<|As 94 [] [] [vyy,lu21,lv21] Z Z kY Ac (JK _ _ _ _ _ _ _ ag.rd2 b4 b3 hPn.out) ?_
       rintro ea eb ⟨ac,rfl,ai,bd⟩
       refine⟨_,rfl,ai,?_⟩
       have d6:=ai.size
       have cv:=c8.trans ai
       have aj:=ah.ext ai
       have cc:=b3.ext g2 ai
       have cd:=b4.ext g3 ai
       refine Af 1 Z<|AI (vs:=[ac,.bool<|(CR (GS<|HG (order.toNat+1) dk di (Cc ys) di.length)<|CS p (order.toNat+1) f.toNat<|Cc ys).isSome]) ac Z Z Ac<|AI (vs:=[ac,.bool<|(CR (GS<|HG (order.toNat+1) dk di (Cc ys) di.length)<|CS p (order.toNat+1) f.toNat<|Cc ys).isSome]) (.bool<|(CR (GS<|HG (order.toNat+1) dk di (Cc ys) di.length)<|CS p (order.toNat+1) f.toNat<|Cc ys).isSome) Z Z Ac<|Ae 1 Z<|Ad _ [0,0,0] Z<|Af 1 Z<|Gl ((r*2:Nat):Int) Z Z (by rw[Dh oM oM];omega) Ac<|Ae 1 Z ?_
       exact⟨(r*2,ac,nX ys (GS (HG (order.toNat+1) dk di (Cc ys) di.length)) (CS p (order.toNat+1) f.toNat (Cc ys))),_,rfl,zR,⟨cv,(bd.up o2).low c8.size,aj,oM,oM,hst.1,hst.2.1,hst.2.2⟩,zD⟩
      refine DF false Z Z (A8 c6) Ac<|Ai<|Aj Z<|A6<|Au<|Au<|An<|qS [0,0,0] Z<|Ae 3 Z<|A3 ?_
      have hcf:=dK bf cr hnz hdt
      have hdn:=bC (o:=order.toNat) (m:=order.toNat+1) hIm hdt al hnz Z hys hyf oM hylo
      exact Ah [8,9] Z (.tuple #[vyy,zI ((0:Nat):Int)]) Z ⟨vyy,(by rw[hcf];rfl),ax,(by rw[Yj hcf,← hdn];exact a5.up o2)⟩
     refine Ag (by first|rfl|exact zW c0)<|qS [0,0] Z<|Ae 2 Z<|A3<|Ap ?_
     have hnz:(Eq p f.toNat (0::a)).any (fun x=>x != 0)=false:=by rw[hany];assumption
     have hdz:DD (FP p f.toNat a)=0:=dL (by rw[← b2];assumption)
     have hcf:=Yi bf cr hnz hdz
     exact Ah [8,9] Z (.tuple #[zN,zI ((6:Nat):Int)]) Z ⟨zN,(by rw[hcf];rfl),ap,Uf⟩
    refine Ag (by first|rfl|exact zW bx)<|qS [0,0] Z<|Ae 2 Z<|A3<|Ap ?_
    have hnz:(Eq p f.toNat (0::a)).any (fun x=>x != 0)=true:=by rw[hany];assumption
    have hcf:=Yh bf cr hnz
    exact Ah [8,9] Z (.tuple #[zN,zI ((4:Nat):Int)]) Z ⟨zN,(by rw[hcf];rfl),b9,Uf⟩
   refine Ag (by first|rfl|exact zW d0)<|Ad _ [0] Z<|Ae 1 Z<|A0<|qS [0,0] Z<|Af 1 Z<|B4 true Z Z (by decide) Ac<|Ai<|Ag Z<|qS [0,0,0] Z<|Ae 3 Z<|A3<|Ap ?_
   have ce:KO p f a order=2:=TW oM (by rw[(show Gp order 0 12=false from GL ‹(!(decide (((0:Nat):Int)≤order) && decide (order≤((12:Nat):Int))))=true›),Bool.and_false])
   have hcf:=NA (o:=order) (show KO p f a order≠0 by rw[ce];decide)
   rw[ce]at hcf
   exact Ah [8,9] Z (.tuple #[zN,zI ((2:Nat):Int)]) Z ⟨zN,(by rw[hcf];rfl),cg,Uf⟩
  refine Ae 5 Z<|Ag Z<|Ad _ [0] Z<|Ae 1 Z<|A0<|qS [0,0] Z<|Af 1 Z<|B4 true Z Z (by decide) Ac<|Ai<|Ag Z<|qS [0,0,0] Z<|Ae 3 Z<|A3<|Ap ?_
  have ce:KO p f a order=2:=TW oM (by rw[(GL ‹(!(decide ((a.length:Int)=((p.getD f.toNat Fn.zero).params-1)) && B9 a))=true›),Bool.false_and])
  have hcf:=NA (o:=order) (show KO p f a order≠0 by rw[ce];decide)
  rw[ce]at hcf
  exact Ah [8,9] Z (.tuple #[zN,zI ((2:Nat):Int)]) Z ⟨zN,(by rw[hcf];rfl),cm,Uf⟩
 refine Av false Z Z (A8 cy) Ac<|Ae 17 Z<|Aj Z<|A4<|A0<|qS [0,0] Z<|Af 1 Z ?_
 have cw:Gg p f D2≠((0:Nat):Int):=oM
 refine B4 true Z Z (A7 cw) Ac<|Ai<|Ag Z<|qS [0,0,0] Z<|Ae 3 Z<|A3<|Ap ?_
 have hcn:Gg p f D2≠0:=by omega
 have hkn:=Yf (a:=a) (o:=order) hcn
 have hcf:=NA (o:=order) (show KO p f a order≠0 by rw[hkn];exact hcn)
 rw[hkn]at hcf
 exact Ah [8,9] Z (.tuple #[zN,zI<|Gg p f D2]) Z ⟨zN,(by rw[hcf]),be,(by rw[KP (by rw[hcf];exact hcn)];exact Ju _ _ _)⟩
end
end Go.Proofs.YtbajepcpgncekaaGreat
