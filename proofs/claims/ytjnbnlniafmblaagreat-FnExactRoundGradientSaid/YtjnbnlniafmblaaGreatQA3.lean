/- Vr, Sk, Ve, Vf, Va, Vb, Vg, Vh, Vm, Ya: texts of this claim, joined; what the claim does not come to is left out. -/
import Derived.Test.YtjnbnlniafmblaaGreatQA2
import Derived.Test.YtjnbnlniafmblaaGreatProg
set_option linter.unusedVariables false
set_option linter.unusedSimpArgs false
namespace Go.Proofs.YtjnbnlniafmblaaGreat
open Go Go.RowKit
section
set_option maxHeartbeats 4000000
set_option maxRecDepth 100000
attribute [local irreducible] LW
def TS (D:Nat):Prop:=∀(w:World) (d:Nat) (va:Value) (a:List Ex) (ha:RN [] (Cj 5 (H0 d)) w.heap va a) (hs:Ex.sizes a≤1000000000) (hd:d≤D),Calls Tryz.prog 187 #[va] w (fun e w'=>∃v,e=.returned v∧AF w w'∧Fr (Dw 5 (Pe 127 d) 127) w.heap.size w'.heap.size w'.heap v a)
theorem M1 (w:World)(dex:Nat)(ve:Value)(ex:Ex)(hex:RX [] dex w.heap ve ex)(hs:Ex.sizes ex.kids≤1000000000)(IH:TS dex) :
  Calls Tryz.prog 229 #[(.agg #[(zI ex.kind),(zI ex.num),(zI ex.pick),(zI ex.count),ve])] w (fun e w'=>∃v,e=.returned (.agg #[zI ex.kind,zI ex.num,zI ex.pick,zI ex.count,v])∧AF w w'∧Fr (Dw 5 (Pe 127 dex) 127) w.heap.size w'.heap.size w'.heap v ex.kids):=by
 refine As [.agg #[zI ex.kind,zI ex.num,zI ex.pick,zI ex.count,ve]] 21 Tryz.func229 Z Z sM ?_
 have bh:AF w w:=AF.refl w
 have b3:=hex.rn.lenle
 unfold maxLen at b3
 refine ZN [3,3] Z (Bj (cs:=#[zI ex.kind,zI ex.num,zI ex.pick,zI ex.count,ve]) Z Aa fun w1 b7 bx ar=>?_)
 have bi:=b7.size
 have bj:=bh.trans b7
 replace ar:BX w1.heap w.heap.size [zI ex.kind,zI ex.num,zI ex.pick,zI ex.count,ve]:=ar
 have bz:=ar.lt
 refine Br (z:=.agg #[zI 0,zI 0,zI 0,zI 0,zN]) K9 Aa fun w2 ax c0 au=>?_
 have bk:=ax.size
 have bl:=bj.trans ax
 have aa:=ar.ext ax
 replace au:BX w2.heap w1.heap.size [zI 0,zI 0,zI 0,zI 0,zN]:=au
 refine Aj<|ZN [3] Z ?_
 have c1:=aa.lt
 have c2:=au.lt
 refine Br (z:=.agg #[zI 0,zI 0,zI 0,zI 0,zN]) K9 Aa fun w4 av c3 ay=>?_
 have bm:=av.size
 have b8:=bl.trans av
 have ab:=aa.ext av
 have ag:=au.ext av
 replace ay:BX w4.heap w2.heap.size [zI 0,zI 0,zI 0,zI 0,zN]:=ay
 refine Aj<|ZN [0,2,0,4] Z<|Ak (p:=zP w.heap.size) 0 U8 Z Z Aa<|Ae (p:=An (zP w.heap.size) 0) (.inr Z) (zI ex.kind) AC Z (ab.ldp (i:=0) sM) Aa<|Ak (p:=zP w2.heap.size) 0 BC Z Z Aa (BH (k:=0) (w:=w4) I3 Z Z ⟨rfl,rfl⟩ ay sM Aa fun w7 aw c4 az=>?_)
 replace az:BX w7.heap w2.heap.size [zI ex.kind,zI 0,zI 0,zI 0,zN]:=az
 have b9:AF w w7:=aw.below b8 (fun _ h=>zE h) b8.size
 have bn:=aw.size
 have ba:=ab.chg aw (zB ·)
 have bo:=ag.chg aw (zB ·)
 refine Aj<|ZN [0,2,0,4] Z<|Ak (p:=zP w.heap.size) 1 U9 Z Z Aa<|Ae (p:=An (zP w.heap.size) 1) (.inr Z) (zI ex.num) AC Z (ba.ldp (i:=1) sM) Aa<|Ak (p:=zP w2.heap.size) 1 Bw Z Z Aa (BH (k:=1) (w:=w7) I3 Z Z ⟨rfl,rfl⟩ az sM Aa fun bv a3 bp ac=>?_)
 replace ac:BX bv.heap w2.heap.size [zI ex.kind,zI ex.num,zI 0,zI 0,zN]:=ac
 have ah:AF w bv:=a3.below b9 (fun _ h=>zE h) b9.size
 have bb:=a3.size
 have ai:=ba.chg a3 (zB ·)
 have b0:=bo.chg a3 (zB ·)
 refine Aj<|ZN [0,2,0,4] Z<|Ak (p:=zP w.heap.size) 2 Ua Z Z Aa<|Ae (p:=An (zP w.heap.size) 2) (.inr Z) (zI ex.pick) AC Z (ai.ldp (i:=2) sM) Aa<|Ak (p:=zP w2.heap.size) 2 Cn Z Z Aa (BH (k:=2) (w:=bv) I3 Z Z ⟨rfl,rfl⟩ ac sM Aa fun bw a4 bq ad=>?_)
 replace ad:BX bw.heap w2.heap.size [zI ex.kind,zI ex.num,zI ex.pick,zI 0,zN]:=ad
 have aj:AF w bw:=a4.below ah (fun _ h=>zE h) ah.size
 have bc:=a4.size
 have ak:=ai.chg a4 (zB ·)
 have b1:=b0.chg a4 (zB ·)
 refine Aj<|ZN [0,2,0,4] Z<|Ak (p:=zP w.heap.size) 3 Ub Z Z Aa<|Ae (p:=An (zP w.heap.size) 3) (.inr Z) (zI ex.count) AC Z (ak.ldp (i:=3) sM) Aa<|Ak (p:=zP w2.heap.size) 3 CC Z Z Aa (BH (k:=3) (w:=bw) I3 Z Z ⟨rfl,rfl⟩ ad sM Aa fun c6 a5 br ae=>?_)
 replace ae:BX c6.heap w2.heap.size [zI ex.kind,zI ex.num,zI ex.pick,zI ex.count,zN]:=ae
 have al:AF w c6:=a5.below aj (fun _ h=>zE h) aj.size
 have bd:=a5.size
 have am:=ak.chg a5 (zB ·)
 have b2:=b1.chg a5 (zB ·)
 refine Aj<|ZN [0,2,3,0,4] Z<|Ak (p:=zP w.heap.size) 4 Q5 Z Z Aa<|Ae (p:=An (zP w.heap.size) 4) (.inr Z) ve N7 Z (am.ldp (i:=4) sM) Aa<|Am 187 [] [] [ve] Z Z UJ Aa (IH _ dex ve (ex.kids) (hex.rn.ext (Al<|Aq dex) al) hs oM) ?_
 rintro c9 c8 ⟨a6,rfl,a0,an⟩
 refine⟨_,rfl,a0,?_⟩
 have be:=a0.size
 have ao:=al.trans a0
 have a7:=b2.ext a0
 have a8:=ae.ext a0
 refine Ak (p:=zP w2.heap.size) 4 B8 Z Z Aa (BH (k:=4) (w:=c8) Yy Z Z (Bn an.isSlS) a8 sM Aa fun c5 a1 bs a9=>?_)
 replace a9:BX c5.heap w2.heap.size [zI ex.kind,zI ex.num,zI ex.pick,zI ex.count,a6]:=a9
 have ap:AF w c5:=a1.below ao (fun _ h=>zE h) ao.size
 have bf:=a1.size
 have b4:=a7.chg a1 (zB ·)
 have aq:=an.chg (Av<|Ch 127 dex) a1 fun _ h=>zA h
 refine Aj<|ZN [2,4] Z<|AJ (p:=zP w2.heap.size) (.inr Z) [zI ex.kind,zI ex.num,zI ex.pick,zI ex.count,a6] Bx Z (fun ca bt=>LD.of_box<|BX.ext (w:=c5) a9 bt) Z Aa (Ce (vs:=[zI ex.kind,zI ex.num,zI ex.pick,zI ex.count,a6]) Bx Z Z (by intro u hu;simp only[ze,z2,or_false]at hu;rcases hu with rfl|rfl|rfl|rfl|rfl <;> first|exact⟨rfl,rfl⟩|exact Bn aq.isSlS) b4 Z Z Aa fun c7 a2 bu af=>?_)
 replace af:BX c7.heap w1.heap.size [zI ex.kind,zI ex.num,zI ex.pick,zI ex.count,a6]:=af
 have b5:AF w c7:=a2.below ap (fun _ h=>zE h) ap.size
 have bg:=a2.size
 have b6:=aq.chg (Av<|Ch 127 dex) a2 fun _ h=>zA h
 exact Aj<|A1<|HO (cs:=[zI ex.kind,zI ex.num,zI ex.pick,zI ex.count,a6]) Z Bx Z af Z ⟨a6,rfl,b5,(b6.up<|Av<|Ch 127 dex).low (B':=w.heap.size) oM⟩
theorem Lq (w:World)(da:Nat)(va:Value)(a:List Ex)(ha:RN [] (Cj 5 (H0 da)) w.heap va a)(hs:Ex.sizes a≤1000000000) :
  Calls Tryz.prog 187 #[va] w (fun e w'=>∃v,e=.returned v∧AF w w'∧Fr (Dw 5 (Pe 127 da) 127) w.heap.size w'.heap.size w'.heap v a):=by
 induction da using Nat.strongRecOn generalizing w va a
 rename_i da ih
 refine As [va] 23 Tryz.func187 Z Z sM ?_
 have aa:AF w w:=AF.refl w
 have ax:=ha.lenle
 unfold maxLen at ax
 have ah:=FE a 0
 refine ZO Z<|ZN [0,0,3,0] Z<|Ad 1 Z<|AP (v:=va) OR Z ha.isSl Aa (Pd (n:=a.length) (zs:=DQ Ex.zero zN) (z0:=Ex.zero) (Ch 127 da) CB Bf Z Z Z Z Z (by decide) oM (fun h0 H=>QP (RN.exPos ha h0) H) Aa fun v1 w1 a4 ai ab=>?_)
 have a5:=a4.size
 have ac:=aa.trans a4
 refine Ac 1 Z<|A0<|ZO Z<|A3 ?_
 refine AT (S:=Nat) (fun k=>([(4,zI (k:Int)),(0,va),(3,v1)])) (fun k W=>AF w W∧Fr (Dw 5 (Pe 127 da) 127) w.heap.size W.heap.size W.heap v1 (a.take k++List.replicate (a.length-k) Ex.zero)∧k≤a.length) (fun k=>a.length-k) 0 ⟨rfl,rfl,rfl,trivial⟩ ⟨ac,(by simpa using ab.up (Av<|Ch 127 da)),sD⟩ ?_
 clear aa ab ai a4 a5 ac
 rintro k ρ2 w2 ⟨a2,a1,ad⟩
 have aj:w.heap.size≤w2.heap.size:=a2.size
 have hml:(a.take k++List.replicate (a.length-k) Ex.zero).length=a.length:=by rw[z4,List.length_take,z5];omega
 refine A0<|ZN [0,0,0,0] Z<|Ad 2 Z<|AP (v:=va) OR Z ha.isSl Aa ?_
 by_cases ae:(k:Int)<(a.length:Int)
 ·refine AE true Z Z (A5 ae) Aa<|Aj<|Ah Z<|A2<|A0<|A3<|Ab _ [0,0,0,0,0,2,3,0,4] Z ?_
  have hsa:=KD (l:=a) (k:=k) oM
  have hsk:=Cd<|a.getD k Ex.zero
  refine Ad 4 Z<|Au (v:=va) k OR Sw Z Z ha.isSl Z sD Aa ?_
  obtain⟨cs4,ak,al⟩:=ha.get (Aq da) Ex.zero (k:=k) sD
  obtain⟨dd4,a6,am,rfl,a7⟩:=RX.of ak
  have a8:=a7.rn.lenle
  unfold maxLen at a8
  refine AJ (p:=Aw va k 5) (.inr Z) [zI<|(a.getD k Ex.zero).kind,zI<|(a.getD k Ex.zero).num,zI<|(a.getD k Ex.zero).pick,zI<|(a.getD k Ex.zero).count,a6] Sv Z (fun ay an=>al ay<|AA.of_ext []<|a2.trans an) Z Aa<|Am 229 [] [] [.agg #[zI<|(a.getD k Ex.zero).kind,zI<|(a.getD k Ex.zero).num,zI<|(a.getD k Ex.zero).pick,zI<|(a.getD k Ex.zero).count,a6]] Z Z Yk Aa (M1 _ dd4 a6 (a.getD k Ex.zero) (a7.ext a2) oM (by intro w9 d9 v9 a9 h1 h2 h3;exact ih d9 oM w9 v9 a9 h1 h2)) ?_
  rintro e5 w5 ⟨v5,rfl,a3,ao⟩
  refine⟨_,rfl,a3,?_⟩
  have ap:=a3.size
  have af:=a2.trans a3
  have a0:=a1.ext (Av<|Ch 127 da) a3
  refine Au (v:=v1) k CB Bf Z Z a0.isSlS Z sD Aa ?_
  refine QL (v:=v1) (cs:=[zI<|(a.getD k Ex.zero).kind,zI<|(a.getD k Ex.zero).num,zI<|(a.getD k Ex.zero).pick,zI<|(a.getD k Ex.zero).count,v5]) (n:=a.getD k Ex.zero) (j:=k) (Ch 127 da) Bx Z Z a0 (Vg (d':=dd4) am a7.rng ao) oM oM sD Aa fun w6 F6 ag aw aq ar=>?_
  have au:AF w w6:=ag.below af (fun c hc=>A8 (A7 _) (aq c hc).1) af.size
  have av:=ag.size
  refine Aj<|Ab _ [0,0,0] Z<|Ad 1 Z<|AQ ((k+1:Nat):Int) Z Z (Be oM sD) Aa<|Ac 1 Z ?_
  exact⟨k+1,_,rfl,zR,⟨au,(by have h:=ar.up (Av (Ch 127 da));rwa [NJ oM]at h),sD⟩,zD⟩
 exact AE false Z Z (A6 ae) Aa<|Aj<|Ai Z<|A4<|Ay<|Ay<|At<|ZN [0,0] Z<|Ac 2 Z<|A1<|Af [2] Z v1 Z ⟨v1,rfl,a2,(by have h:=((a1.up<|Av<|Ch 127 da).low (B':=w.heap.size) oM);rwa [show a.take k++List.replicate (a.length-k) Ex.zero=a from by rw[za oM,show a.length-k=0 from by omega];simp]at h)⟩
theorem M2 (w:World)(dg:Nat)(vf:Value)(g:Fn)(hg:RF [] dg w.heap vf g)(hs:Ex.sizes g.outs≤1000000000) :
  Calls Tryz.prog 143 #[(.agg #[(.string g.name),(zI g.params),vf])] w (fun e w'=>∃v,e=.returned (.agg #[.string g.name,zI g.params,v])∧AF w w'∧Fr (Dw 5 (Pe 127 dg) 127) w.heap.size w'.heap.size w'.heap v g.outs):=by
 refine As [.agg #[.string g.name,zI g.params,vf]] 15 Tryz.func143 Z Z sM ?_
 have b5:AF w w:=AF.refl w
 have ar:=hg.rn.lenle
 unfold maxLen at ar
 refine ZN [3,3] Z (Bj (cs:=#[.string g.name,zI g.params,vf]) Z Aa fun w1 ax bj aj=>?_)
 have b6:=ax.size
 have b7:=b5.trans ax
 replace aj:BX w1.heap w.heap.size [.string g.name,zI g.params,vf]:=aj
 have bk:=aj.lt
 refine Br (z:=.agg #[.string ByteArray.empty,zI 0,zN]) U0 Aa fun w2 an bl ak=>?_
 have b8:=an.size
 have b9:=b7.trans an
 have a8:=aj.ext an
 replace ak:BX w2.heap w1.heap.size [.string ByteArray.empty,zI 0,zN]:=ak
 refine Aj<|ZN [3] Z ?_
 have bm:=a8.lt
 have bn:=ak.lt
 refine Br (z:=.agg #[.string ByteArray.empty,zI 0,zN]) U0 Aa fun w4 al bo ao=>?_
 have ba:=al.size
 have ay:=b9.trans al
 have a9:=a8.ext al
 have ac:=ak.ext al
 replace ao:BX w4.heap w2.heap.size [.string ByteArray.empty,zI 0,zN]:=ao
 refine Aj<|ZN [0,2,0,4] Z<|Ak (p:=zP w.heap.size) 0 Q0 Z Z Aa<|Ae (p:=An (zP w.heap.size) 0) (.inr Z) (.string g.name) LU Z (a9.ldp (i:=0) sM) Aa<|Ak (p:=zP w2.heap.size) 0 G8 Z Z Aa (BH (k:=0) (w:=w4) ZU Z Z ⟨rfl,rfl⟩ ao sM Aa fun w7 am bp ap=>?_)
 replace ap:BX w7.heap w2.heap.size [.string g.name,zI 0,zN]:=ap
 have az:AF w w7:=am.below ay (fun _ h=>zE h) ay.size
 have bb:=am.size
 have b0:=a9.chg am (zB ·)
 have bc:=ac.chg am (zB ·)
 refine Aj<|ZN [0,2,0,4] Z<|Ak (p:=zP w.heap.size) 1 U3 Z Z Aa<|Ae (p:=An (zP w.heap.size) 1) (.inr Z) (zI g.params) AC Z (b0.ldp (i:=1) sM) Aa<|Ak (p:=zP w2.heap.size) 1 Ct Z Z Aa (BH (k:=1) (w:=w7) I3 Z Z ⟨rfl,rfl⟩ ap sM Aa fun bi a3 bd aa=>?_)
 replace aa:BX bi.heap w2.heap.size [.string g.name,zI g.params,zN]:=aa
 have ad:AF w bi:=a3.below az (fun _ h=>zE h) az.size
 have b1:=a3.size
 have ae:=b0.chg a3 (zB ·)
 have aq:=bc.chg a3 (zB ·)
 refine Aj<|ZN [0,2,3,0,4] Z<|Ak (p:=zP w.heap.size) 2 Q3 Z Z Aa<|Ae (p:=An (zP w.heap.size) 2) (.inr Z) vf N7 Z (ae.ldp (i:=2) sM) Aa<|Am 187 [] [] [vf] Z Z UJ Aa (Lq _ dg vf (g.outs) (hg.rn.ext (Al<|Aq dg) ad) hs) ?_
 rintro bs br ⟨a4,rfl,a0,af⟩
 refine⟨_,rfl,a0,?_⟩
 have b2:=a0.size
 have ag:=ad.trans a0
 have a5:=aq.ext a0
 have a6:=aa.ext a0
 refine Ak (p:=zP w2.heap.size) 2 BQ Z Z Aa (BH (k:=2) (w:=br) Yy Z Z (Bn af.isSlS) a6 sM Aa fun bh a1 be a7=>?_)
 replace a7:BX bh.heap w2.heap.size [.string g.name,zI g.params,a4]:=a7
 have ah:AF w bh:=a1.below ag (fun _ h=>zE h) ag.size
 have b3:=a1.size
 have au:=a5.chg a1 (zB ·)
 have ai:=af.chg (Av<|Ch 127 dg) a1 fun _ h=>zA h
 refine Aj<|ZN [2,4] Z<|AJ (p:=zP w2.heap.size) (.inr Z) [.string g.name,zI g.params,a4] Hu Z (fun bt bf=>LD.of_box<|BX.ext (w:=bh) a7 bf) Z Aa (Ce (vs:=[.string g.name,zI g.params,a4]) Hu Z Z (by intro u hu;simp only[ze,z2,or_false]at hu;rcases hu with rfl|rfl|rfl <;> first|exact⟨rfl,rfl⟩|exact Bn ai.isSlS) au Z Z Aa fun bq a2 bg ab=>?_)
 replace ab:BX bq.heap w1.heap.size [.string g.name,zI g.params,a4]:=ab
 have av:AF w bq:=a2.below ah (fun _ h=>zE h) ah.size
 have b4:=a2.size
 have aw:=ai.chg (Av<|Ch 127 dg) a2 fun _ h=>zA h
 exact Aj<|A1<|HO (cs:=[.string g.name,zI g.params,a4]) Z Hu Z ab Z ⟨a4,rfl,av,(aw.up<|Av<|Ch 127 dg).low (B':=w.heap.size) oM⟩
theorem Lr (w:World)(da:Nat)(va:Value)(a:List Fn)(ha:RP [] da w.heap va a)(hs:MV a≤1000000000) :
  Calls Tryz.prog 88 #[va] w (fun e w'=>∃v,e=.returned v∧AF w w'∧Fr (Dw 3 (Tc 127 da) 33) w.heap.size w'.heap.size w'.heap v a):=by
 refine As [va] 23 Tryz.func88 Z Z sM ?_
 have a9:AF w w:=AF.refl w
 have au:=ha.lenle
 unfold maxLen at au
 have hsz:MV a=a.length+Fn.szs a:=rfl
 refine ZO Z<|ZN [0,0,3,0] Z<|Ad 1 Z<|AP (v:=va) VO Z ha.isSl Aa (Pd (n:=a.length) (zs:=DU Fn.zero zN) (z0:=Fn.zero) (AN 127 da) Fq C9 Z Z Z Z Z (by decide) oM (fun _ H=>QQ H) Aa fun v1 w1 a5 ag aa=>?_)
 have a6:=a5.size
 have ab:=a9.trans a5
 refine Ac 1 Z<|A0<|ZO Z<|A3 ?_
 refine AT (S:=Nat) (fun k=>([(4,zI (k:Int)),(0,va),(3,v1)])) (fun k W=>AF w W∧Fr (Dw 3 (Tc 127 da) 33) w.heap.size W.heap.size W.heap v1 (a.take k++List.replicate (a.length-k) Fn.zero)∧k≤a.length) (fun k=>a.length-k) 0 ⟨rfl,rfl,rfl,trivial⟩ ⟨ab,(by simpa using aa.up (Av<|AN 127 da)),sD⟩ ?_
 clear a9 aa ag a5 a6 ab
 rintro k ρ2 w2 ⟨a2,a1,ac⟩
 have ah:w.heap.size≤w2.heap.size:=a2.size
 have hml:(a.take k++List.replicate (a.length-k) Fn.zero).length=a.length:=by rw[z4,List.length_take,z5];omega
 refine A0<|ZN [0,0,0,0] Z<|Ad 2 Z<|AP (v:=va) VO Z ha.isSl Aa ?_
 by_cases ad:(k:Int)<(a.length:Int)
 ·refine AE true Z Z (A5 ad) Aa<|Aj<|Ah Z<|A2<|A0<|A3<|Ab _ [0,0,0,0,0,2,3,0,4] Z ?_
  have hsa:=Ry (l:=a) (k:=k) oM
  have hsk:(a.getD k Fn.zero).sz=(a.getD k Fn.zero).name.size+Ex.sizes (a.getD k Fn.zero).outs:=rfl
  refine Ad 4 Z<|Au (v:=va) k VO Su Z Z ha.isSl Z sD Aa ?_
  obtain⟨cs4,ai,aj⟩:=ha.get (Ax da) Fn.zero (k:=k) sD
  obtain⟨a7,rfl,a3⟩:=RF.of ai
  have a8:=a3.rn.lenle
  unfold maxLen at a8
  refine AJ (p:=Aw va k 3) (.inr Z) [.string<|(a.getD k Fn.zero).name,zI<|(a.getD k Fn.zero).params,a7] St Z (fun av ak=>aj av<|AA.of_ext []<|a2.trans ak) Z Aa<|Am 143 [] [] [.agg #[.string<|(a.getD k Fn.zero).name,zI<|(a.getD k Fn.zero).params,a7]] Z Z XW Aa (M2 _ da a7 (a.getD k Fn.zero) ⟨a3.rng,a3.rn.ext (Al<|Aq da) a2⟩ oM) ?_
  rintro e5 w5 ⟨v5,rfl,a4,al⟩
  refine⟨_,rfl,a4,?_⟩
  have am:=a4.size
  have ae:=a2.trans a4
  have a0:=a1.ext (Av<|AN 127 da) a4
  refine Au (v:=v1) k Fq C9 Z Z a0.isSlS Z sD Aa ?_
  refine QL (v:=v1) (cs:=[.string<|(a.getD k Fn.zero).name,zI<|(a.getD k Fn.zero).params,v5]) (n:=a.getD k Fn.zero) (j:=k) (AN 127 da) Hu Z Z a0 (Vh a3.rng al) oM oM sD Aa fun w6 F6 af ar an ao=>?_
  have ap:AF w w6:=af.below ae (fun c hc=>A8 (A7 _) (an c hc).1) ae.size
  have aq:=af.size
  refine Aj<|Ab _ [0,0,0] Z<|Ad 1 Z<|AQ ((k+1:Nat):Int) Z Z (Be oM sD) Aa<|Ac 1 Z ?_
  exact⟨k+1,_,rfl,zR,⟨ap,(by have h:=ao.up (Av (AN 127 da));rwa [NJ oM]at h),sD⟩,zD⟩
 exact AE false Z Z (A6 ad) Aa<|Aj<|Ai Z<|A4<|Ay<|Ay<|At<|ZN [0,0] Z<|Ac 2 Z<|A1<|Af [2] Z v1 Z ⟨v1,rfl,a2,(by have h:=((a1.up<|Av<|AN 127 da).low (B':=w.heap.size) oM);rwa [show a.take k++List.replicate (a.length-k) Fn.zero=a from by rw[za oM,show a.length-k=0 from by omega];simp]at h)⟩
theorem Dr (w:World)(dp:Nat)(vp:Value)(p:List Fn)(hp:RP [] dp w.heap vp p)(hs:MV p≤1000000000) :
  Calls Tryz.prog 32 #[(.agg #[vp])] w (fun e w'=>∃v,e=.returned (.agg #[v])∧AF w w'∧Fr (Dw 3 (Tc 127 dp) 33) w.heap.size w'.heap.size w'.heap v p):=by
 refine As [.agg #[vp]] 9 Tryz.func32 Z Z sM ?_
 have aq:AF w w:=AF.refl w
 have a6:=hp.lenle
 unfold maxLen at a6
 refine ZN [3,3] Z (Bj (cs:=#[vp]) Z Aa fun w1 ak b5 ab=>?_)
 have ar:=ak.size
 have au:=aq.trans ak
 replace ab:BX w1.heap w.heap.size [vp]:=ab
 have b6:=ab.lt
 refine Br (z:=.agg #[zN]) VP Aa fun w2 af b7 ac=>?_
 have av:=af.size
 have aw:=au.trans af
 have a1:=ab.ext af
 replace ac:BX w2.heap w1.heap.size [zN]:=ac
 refine Aj<|ZN [3] Z ?_
 have b8:=a1.lt
 have b9:=ac.lt
 refine Br (z:=.agg #[zN]) VP Aa fun w4 ad ba ag=>?_
 have ax:=ad.size
 have al:=aw.trans ad
 have a2:=a1.ext ad
 have a5:=ac.ext ad
 replace ag:BX w4.heap w2.heap.size [zN]:=ag
 refine Aj<|ZN [0,2,3,0,4] Z<|Ak (p:=zP w.heap.size) 0 Sq Z Z Aa<|Ae (p:=An (zP w.heap.size) 0) (.inr Z) vp UU Z (a2.ldp (i:=0) sM) Aa<|Am 88 [] [] [vp] Z Z Zz Aa (Lr _ dp vp (p) (hp.ext (Al<|Ax dp) al) hs) ?_
 rintro e7 w7 ⟨v7,rfl,a4,am⟩
 refine⟨_,rfl,a4,?_⟩
 have ay:=a4.size
 have an:=al.trans a4
 have a7:=a5.ext a4
 have a8:=ag.ext a4
 refine Ak (p:=zP w2.heap.size) 0 BA Z Z Aa (BH (k:=0) (w:=w7) ZD Z Z (Bn am.isSlS) a8 sM Aa fun w8 a9 bb ae=>?_)
 replace ae:BX w8.heap w2.heap.size [v7]:=ae
 have ao:AF w w8:=a9.below an (fun _ h=>zE h) an.size
 have az:=a9.size
 have ah:=a7.chg a9 (zB ·)
 have aa:=am.chg (Av<|AN 127 dp) a9 fun _ h=>zA h
 refine Aj<|ZN [2,4] Z<|AJ (p:=zP w2.heap.size) (.inr Z) [v7] Df Z (fun b3 b1=>LD.of_box<|BX.ext (w:=w8) ae b1) Z Aa (Ce (vs:=[v7]) Df Z Z (by intro u hu;simp only[ze,z2,or_false]at hu;rcases hu with rfl <;> first|exact⟨rfl,rfl⟩|exact Bn aa.isSlS) ah Z Z Aa fun b0 a0 b2 a3=>?_)
 replace a3:BX b0.heap w1.heap.size [v7]:=a3
 have ai:AF w b0:=a0.below ao (fun _ h=>zE h) ao.size
 have ap:=a0.size
 have aj:=aa.chg (Av<|AN 127 dp) a0 fun _ h=>zA h
 exact Aj<|A1<|HO (cs:=[v7]) Z Df Z a3 Z ⟨v7,rfl,ai,(aj.up<|Av<|AN 127 dp).low (B':=w.heap.size) oM⟩
theorem Ke (w:World)(k:Int)(_hk:Bk k)(hk:0≤k∧k≤4000000000) :
  Calls Tryz.prog 145 #[zI k] w (fun e w'=>∃s,e=.returned (.string s)∧AF w w'):=by
 refine As [zI k] 20 Tryz.func145 Z Z sM ?_
 have a0:AF w w:=AF.refl w
 refine ZO Z<|A0<|ZN [0,0] Z<|Ad 1 Z ?_
 by_cases a2:k≤((0:Nat):Int)
 ·exact Fw true Z Z (A5 a2) Aa<|Aj<|Ah Z<|ZO Z<|A1<|Ao<|Af [2] Z (.string<|⟨#[109,48]⟩) Z ⟨⟨#[109,48]⟩,rfl,a0⟩
 refine Fw false Z Z (A6 a2) Aa<|Aj<|Ai Z<|A2<|ZO Z<|A0<|A3<|AT (S:=Int×ByteArray) (fun⟨l,s⟩=>([(0,zI l),(3,.string s)])) (fun⟨l,s⟩ W=>AF w W∧(0≤l∧l+(s.size:Int)≤k)) (fun⟨l,s⟩=>l.toNat) (k,⟨#[]⟩) ⟨rfl,rfl,trivial⟩ ⟨a0,(by exact⟨zO,by show k+((0:Nat):Int)≤k;omega⟩)⟩ ?_
 clear a0
 rintro⟨l,s⟩ ρ2 w2 ⟨a1,a3⟩
 have a6:w.heap.size≤w2.heap.size:=a1.size
 refine A0<|ZN [0,0] Z<|Ad 1 Z ?_
 by_cases a4:((0:Nat):Int)<l
 ·refine BU true Z Z (A5 a4) Aa<|Aj<|Ah Z<|A2<|A3<|ZN [0,0,0,0,3,2,0,0,0] Z ?_
  have htm:0≤l.tmod ((10:Nat):Int)∧l.tmod ((10:Nat):Int)<10:=⟨Int.tmod_nonneg _ oM,Int.tmod_lt_of_pos _ oM⟩
  refine Ad 1 Z<|EE (l.tmod ((10:Nat):Int)) Z Z (by decide) Z Aa<|AQ (((48:Nat):Int)+l.tmod ((10:Nat):Int)) Z Z (CT oM oM) Aa<|V7 (IntKind.u8.wrap (((48:Nat):Int)+l.tmod ((10:Nat):Int))) u3 u5 Z Z Aa (By (u:=.int .u8<|IntKind.u8.wrap (((48:Nat):Int)+l.tmod ((10:Nat):Int))) (B:=w2.heap.size) Bv ZV aC Z Z (LN (w2.heap.size) (w2.heap.size) _ ⟨rfl,rfl⟩) (A7 _) Aa fun v4 w4 a5 ab a7=>?_)
  have a8:=a5.size
  have a9:=a1.trans a5
  exact Vi ZV u5 u9 Z a7 Aa fun sb5 aa=>Ad 1 Z<|QR (a:=sb5) (b:=s) Z Z oM Aa<|Ac 1 Z<|Ab _ [0,0,0] Z<|Ad 1 Z<|NE (l / 10) Z Z (by decide) (by rw[Int.tdiv_eq_ediv_of_nonneg oM,CT oM oM]) Aa<|Ac 1 Z ⟨(l / 10,sb5++s),_,rfl,⟨rfl,rfl,trivial⟩,⟨a9,(by rw[ByteArray.size_append];omega)⟩,zD⟩
 exact BU false Z Z (A6 a4) Aa<|Aj<|Ai Z<|A4<|Ay<|Ay<|At<|ZN [0,0,0] Z<|Ad 1 Z<|QR (a:=⟨#[109]⟩) (b:=s) Z Z (by show 1+s.size≤9223372036854775807;omega) Aa<|Ac 1 Z<|A1<|Af [2] Z (.string (⟨#[109]⟩++s)) Z ⟨⟨#[109]⟩++s,rfl,a1⟩
theorem Nd {p:Prop}(h:p:=by first|exact CT oM oM|(rw[CT oM oM];omega)):p:=h
theorem JH (w:World)(da:Nat)(va:Value)(a:List Ex)(Fa:List Nat)(k:Int)(ha:Dw 5 (OA 127 da) 127 w.heap va a Fa)(hna:Fa.Nodup)(_hk:Bk k)(hk:0≤k∧k+4*((Ex.sizes a:Nat):Int)≤4000000000) :
  Calls Tryz.prog 146 #[va,zI k] w (fun e w'=>∃k':Int,e=.returned (zI k')∧AA Fa w w'∧Dw 5 (OA 127 da) 127 w'.heap va a Fa∧(k≤k'∧k'≤k+4*((Ex.sizes a:Nat):Int))):=by
 induction da using Nat.strongRecOn generalizing w va a Fa k
 rename_i da ih
 refine As [va,zI k] 48 Tryz.func146 Z Z sM ?_
 have al:AA Fa w w:=AA.refl Fa w
 have bb:=ha.lenle
 unfold maxLen at bb
 have aw:=FE a 0
 have b7:a.length≤Ex.sizes a:=by omega
 refine ZO Z<|A0<|ZO Z<|A3<|AT (S:=Nat×Int) (fun⟨j,l⟩=>([(1,zI l),(5,zI (j:Int)),(0,va)])) (fun⟨j,l⟩ W=>AA Fa w W∧j≤a.length∧Dw 5 (OA 127 da) 127 W.heap va a Fa∧(k≤l∧l≤k+4*((Ex.sizes (a.take j):Nat):Int))) (fun⟨j,l⟩=>a.length-j) (0,k) ⟨rfl,rfl,rfl,trivial⟩ ⟨al,oM,(by assumption),(by rw[List.take_zero,HN];omega)⟩ ?_
 clear al
 rintro⟨j,l⟩ ρ1 w1 ⟨a8,am,hsh,hlk⟩
 have ax:w.heap.size≤w1.heap.size:=a8.size
 refine A0<|ZN [0,0,0,0] Z<|Ad 2 Z<|AP (v:=va) CB Z hsh.isSl Aa ?_
 by_cases an:(j:Int)<(a.length:Int)
 ·refine AE true Z Z (A5 an) Aa<|Aj<|Ah Z<|A2<|A0<|A3<|ZN [0,0,0,0,0,4] Z ?_
  have hst:=CW (l:=a) (k:=j) oM
  have hle:=CF a (j+1)
  have hsk:=Cd<|a.getD j Ex.zero
  refine Ad 3 Z<|Au (v:=va) j CB Bf Z Z hsh.isSl Z sD Aa ?_
  obtain⟨gb3,ob3,a9⟩:=hsh.isPtr (k:=j) sD
  refine Ak (p:=Aw va j 5) (b:=gb3) (o:=ob3) 0 BC Z a9 Aa (Jt (v:=va) (k:=j) (c:=0) (EF 127 da) I3 Z Z ⟨rfl,rfl⟩ hsh hna sD (by decide) (fun h=>Kn (by decide) h) Aa fun w4 ao b8 aa=>?_)
  have ay:AA Fa w w4:=a8.trans ao
  have az:=ao.size
  refine Aj<|ZN [0,0,0] Z<|Ad 1 Z<|AQ (l+1) Z Z Nd Aa<|Ac 1 Z<|ZN [0,0,0,0,0,4] Z<|Ad 3 Z<|Au (v:=va) j CB Bf Z Z aa.isSl Z sD Aa ?_
  obtain⟨gb5,ob5,ab⟩:=aa.isPtr (k:=j) sD
  refine Ak (p:=Aw va j 5) (b:=gb5) (o:=ob5) 1 Bw Z ab Aa (Jt (v:=va) (k:=j) (c:=1) (EF 127 da) I3 Z Z ⟨rfl,rfl⟩ aa hna sD (by decide) (fun h=>Kn (by decide) h) Aa fun w6 ap b9 ac=>?_)
  have b0:AA Fa w w6:=ay.trans ap
  have b1:=ap.size
  refine Aj<|ZN [0,0,0] Z<|Ad 1 Z<|AQ (l+2) Z Z Nd Aa<|Ac 1 Z<|ZN [0,0,0,0,0,4] Z<|Ad 3 Z<|Au (v:=va) j CB Bf Z Z ac.isSl Z sD Aa ?_
  obtain⟨gb7,ob7,ad⟩:=ac.isPtr (k:=j) sD
  refine Ak (p:=Aw va j 5) (b:=gb7) (o:=ob7) 2 Cn Z ad Aa (Jt (v:=va) (k:=j) (c:=2) (EF 127 da) I3 Z Z ⟨rfl,rfl⟩ ac hna sD (by decide) (fun h=>Kn (by decide) h) Aa fun w8 aq ba ae=>?_)
  have b2:AA Fa w w8:=b0.trans aq
  have b3:=aq.size
  refine Aj<|ZN [0,0,0] Z<|Ad 1 Z<|AQ (l+3) Z Z Nd Aa<|Ac 1 Z<|ZN [0,0,0,0,0,4] Z<|Ad 3 Z<|Au (v:=va) j CB Bf Z Z ae.isSl Z sD Aa ?_
  obtain⟨gb9,ob9,af⟩:=ae.isPtr (k:=j) sD
  refine Ak (p:=Aw va j 5) (b:=gb9) (o:=ob9) 3 CC Z af Aa (Jt (v:=va) (k:=j) (c:=3) (EF 127 da) I3 Z Z ⟨rfl,rfl⟩ ae hna sD (by decide) (fun h=>Kn (by decide) h) Aa fun bc a4 b4 a0=>?_)
  have ag:AA Fa w bc:=b2.trans a4
  have ar:=a4.size
  refine Aj<|ZN [0,0,0] Z<|Ad 1 Z<|AQ (l+4) Z Z Nd Aa<|Ac 1 Z<|Ab _ [0,0,0,0,2,0,4,0] Z<|Ad 2 Z<|Au (v:=va) j CB Bf Z Z a0.isSl Z sD Aa ?_
  obtain⟨gb11,ob11,a5⟩:=a0.isPtr (k:=j) sD
  refine Ak (p:=Aw va j 5) (b:=gb11) (o:=ob11) 4 B8 Z a5 Aa ?_
  obtain⟨dk12,a1,G12,au,ah,ai,a6,a2,a7⟩:=a0.kidE hna (k:=j) sD
  refine Ae (p:=An (Aw va j 5) 4) (.inr Z) a1 Ba Z ah Aa<|Ad 1 Z<|AI 146 [] [] [a1,zI (l+4)] Z Z UF Aa (ih dk12 oM _  a1 ((a.getD j Ex.zero).kids) G12 (l+4) ai a6 oM oM) ?_
  rintro be bd ⟨k13,rfl,a3,aj,b5⟩
  refine⟨_,rfl,?_⟩
  have av:=a3.size
  have ak:AA Fa w bd:=ag.trans (a3.sub a2)
  have b6:=a7 _ a3 aj
  exact Ac 1 Z<|Ab _ [0,0,0] Z<|Ad 1 Z<|AQ ((j+1:Nat):Int) Z Z (Be oM sD) Aa<|Ac 1 Z ⟨(j+1,k13),_,rfl,zR,⟨ak,oM,(by assumption),oM⟩,zD⟩
 exact AE false Z Z (A6 an) Aa<|Aj<|Ai Z<|A4<|Ay<|Ay<|At<|ZN [0,0] Z<|Ac 2 Z<|A1<|Af [4] Z (zI l) Z ⟨l,rfl,a8,hsh,(zH<|CF a j)⟩
theorem JI (w:World)(da:Nat)(va:Value)(a:List Fn)(Fa:List Nat)(k:Int)(ha:Dw 3 (Qh 127 da) 33 w.heap va a Fa)(hna:Fa.Nodup)(_hk:Bk k)(hk:0≤k∧k+4*((MV a:Nat):Int)≤4000000000) :
  Calls Tryz.prog 90 #[va,zI k] w (fun e w'=>∃k':Int,e=.returned (zI k')∧AA Fa w w'∧Dw 3 (Qh 127 da) 33 w'.heap va a Fa∧(k≤k'∧k'≤k+4*((MV a:Nat):Int))):=by
 refine As [va,zI k] 35 Tryz.func90 Z Z sM ?_
 have ah:AA Fa w w:=AA.refl Fa w
 have b0:=ha.lenle
 unfold maxLen at b0
 have hsz:MV a=a.length+Fn.szs a:=rfl
 refine ZO Z<|A0<|ZO Z<|A3<|AT (S:=Nat×Int) (fun⟨j,l⟩=>([(1,zI l),(5,zI (j:Int)),(0,va)])) (fun⟨j,l⟩ W=>AA Fa w W∧j≤a.length∧Dw 3 (Qh 127 da) 33 W.heap va a Fa∧(k≤l∧l≤k+2*(j:Int)+4*((Fn.szs (a.take j):Nat):Int))) (fun⟨j,l⟩=>a.length-j) (0,k) ⟨rfl,rfl,rfl,trivial⟩ ⟨ah,oM,(by assumption),(by rw[List.take_zero,MU];omega)⟩ ?_
 clear ah
 rintro⟨j,l⟩ ρ1 w1 ⟨a6,ai,hsh,hlk⟩
 have an:w.heap.size≤w1.heap.size:=a6.size
 refine A0<|ZN [0,0,0,0] Z<|Ad 2 Z<|AP (v:=va) Fq Z hsh.isSl Aa ?_
 by_cases aj:(j:Int)<(a.length:Int)
 ·refine AE true Z Z (A5 aj) Aa<|Aj<|Ah Z<|A2<|A0<|A3<|ZN [0,0,0,3,0,0,4] Z ?_
  have hst:=L6 (l:=a) (k:=j) oM
  have hle:=Hq a (j+1)
  have hsk:(a.getD j Fn.zero).sz=(a.getD j Fn.zero).name.size+Ex.sizes (a.getD j Fn.zero).outs:=rfl
  refine Ad 3 Z<|Am 145 [] [] [zI l] Z Z XY Aa (Ke _ (l) oM oM) ?_
  rintro e3 w3 ⟨st3,rfl,a5⟩
  refine⟨_,rfl,a5,?_⟩
  have ao:=a5.size
  have ap:AA Fa w w3:=a6.ext a5
  have a7:=MH (Av<|Gj 127 da) hsh a5
  refine Au (v:=va) j Fq C9 Z Z a7.isSl Z sD Aa ?_
  obtain⟨gb5,ob5,a8⟩:=a7.isPtr (k:=j) sD
  refine Ak (p:=Aw va j 3) (b:=gb5) (o:=ob5) 0 G8 Z a8 Aa (Jt (v:=va) (k:=j) (c:=0) (Gj 127 da) ZU Z Z ⟨rfl,rfl⟩ a7 hna sD (by decide) (fun h=>QN h) Aa fun w6 ak ay a9=>?_)
  have aq:AA Fa w w6:=ap.trans ak
  have ar:=ak.size
  refine Aj<|ZN [0,0,0] Z<|Ad 1 Z<|AQ (l+1) Z Z (by first|exact CT oM oM|(rw[CT oM oM];omega)) Aa<|Ac 1 Z<|ZN [0,0,0,0,0,4] Z<|Ad 3 Z<|Au (v:=va) j Fq C9 Z Z a9.isSl Z sD Aa ?_
  obtain⟨gb7,ob7,aa⟩:=a9.isPtr (k:=j) sD
  refine Ak (p:=Aw va j 3) (b:=gb7) (o:=ob7) 1 Ct Z aa Aa (Jt (v:=va) (k:=j) (c:=1) (Gj 127 da) I3 Z Z ⟨rfl,rfl⟩ a9 hna sD (by decide) (fun h=>QO h) Aa fun w8 al az ab=>?_)
  have au:AA Fa w w8:=aq.trans al
  have av:=al.size
  refine Aj<|ZN [0,0,0] Z<|Ad 1 Z<|AQ (l+2) Z Z (by first|exact CT oM oM|(rw[CT oM oM];omega)) Aa<|Ac 1 Z<|Ab _ [0,0,0,0,2,0,4,0] Z<|Ad 2 Z<|Au (v:=va) j Fq C9 Z Z ab.isSl Z sD Aa ?_
  obtain⟨gb9,ob9,ac⟩:=ab.isPtr (k:=j) sD
  refine Ak (p:=Aw va j 3) (b:=gb9) (o:=ob9) 2 BQ Z ac Aa ?_
  obtain⟨a0,G10,ad,ae,a3,a1,a4⟩:=ab.kidF hna (k:=j) sD
  refine Ae (p:=An (Aw va j 3) 2) (.inr Z) a0 Ba Z ad Aa<|Ad 1 Z<|AI 146 [] [] [a0,zI (l+2)] Z Z UF Aa (JH _ da a0 ((a.getD j Fn.zero).outs) G10 (l+2) ae a3 oM oM) ?_
  rintro b2 b1 ⟨k11,rfl,a2,af,aw⟩
  refine⟨_,rfl,?_⟩
  have am:=a2.size
  have ag:AA Fa w b1:=au.trans (a2.sub a1)
  have ax:=a4 _ a2 af
  exact Ac 1 Z<|Ab _ [0,0,0] Z<|Ad 1 Z<|AQ ((j+1:Nat):Int) Z Z (Be oM sD) Aa<|Ac 1 Z ⟨(j+1,k11),_,rfl,zR,⟨ag,oM,(by assumption),oM⟩,zD⟩
 exact AE false Z Z (A6 aj) Aa<|Aj<|Ai Z<|A4<|Ay<|Ay<|At<|ZN [0,0] Z<|Ac 2 Z<|A1<|Af [4] Z (zI l) Z ⟨l,rfl,a6,hsh,(zH<|Hq a j)⟩
theorem Iq (w:World)(da:Nat)(va:Value)(a:List Fn)(Fa:List Nat)(k:Int)(ha:Dw 3 (Qh 127 da) 33 w.heap va a Fa)(hna:Fa.Nodup)(_hk:Bk k)(hk:0≤k∧k+4*((MV a:Nat):Int)≤4000000000) :
  Calls Tryz.prog 36 #[(.agg #[va]),zI k] w (fun e w'=>∃k':Int,e=.returned (zI k')∧AA Fa w w'∧Dw 3 (Qh 127 da) 33 w'.heap va a Fa∧(k≤k'∧k'≤k+4*((MV a:Nat):Int))):=by
 refine As [.agg #[va],zI k] 10 Tryz.func36 Z Z sM ?_
 have a3:AA Fa w w:=AA.refl Fa w
 refine ZN [3,0] Z (Bj (cs:=#[va]) Z Aa fun w1 a0 aa a1=>?_)
 have a4:=a0.size
 have a5:AA Fa w w1:=a3.ext a0
 have a6:=MH (Av<|Gj 127 da) ha a0
 replace a1:BX w1.heap w.heap.size [va]:=a1
 refine Ac 1 Z<|ZN [0,2,0,4,0] Z<|Ak (p:=zP w.heap.size) 0 BA Z Z Aa<|Ae (p:=An (zP w.heap.size) 0) (.inr Z) va C5 Z (a1.ldp (i:=0) sM) Aa<|Ad 1 Z<|AI 90 [] [] [va,zI k] Z Z ZB Aa (JI _ da va a Fa (k) a6 hna _hk oM) ?_
 rintro e3 w3 ⟨k3,rfl,a2,a7,ab⟩
 refine⟨_,rfl,?_⟩
 have a8:=a2.size
 have a9:AA Fa w w3:=a5.trans a2
 exact Ac 1 Z<|ZN [0,0] Z<|Ac 2 Z<|A1<|Af [4] Z (zI k3) Z ⟨k3,rfl,a9,a7,oM⟩
theorem D9 (w:World)(va:Value)(a:Sr)(y:Int)(ha:Rd (B5 rI) w.heap va a)(_hy:Bk y)(hla:a.length≤1000000000000)(hqa:B9 a=true)(hy:0≤y∧y<1000003) :
  Calls Tryz.prog 174 #[va,zI y] w (fun e w'=>∃v0:Value,e=.returned (v0)∧AF w w'∧Fr (Bo rI 2) w.heap.size w'.heap.size w'.heap v0 (Di a y)):=by
 refine As [va,zI y] 27 Tryz.func174 Z Z sM ?_
 have a4:AF w w:=AF.refl w
 have ah:=ha.lenle
 refine ZO Z<|ZN [0,0,3,0] Z<|Ad 1 Z<|AP (v:=va) Bl Z ha.isSl Aa (Fx (n:=a.length) Bl BD Z Z Z sD Aa fun v1 w1 a2 aa a5=>?_)
 have a3:=a2.size
 have a6:=a4.trans a2
 refine Ac 1 Z<|A0<|ZN [0,0,0] Z<|Ad 1 Z<|AP (v:=va) Bl Z ha.isSl Aa<|Ac 1 Z<|A3 ?_
 refine AT (S:=Nat) (fun k=>([(12,zI (k:Int)),(0,va),(1,zI y),(5,v1),(11,zI (a.length:Int))])) (fun k W=>AF w W∧Fr (Bo rI 2) w.heap.size W.heap.size W.heap v1 (GJ k (Di a y)<|List.replicate a.length 0)∧k≤a.length) (fun k=>a.length-k) 0 ⟨rfl,rfl,rfl,rfl,rfl,trivial⟩ ⟨a6,(by rw[FA];exact a5.up o1),sD⟩ ?_
 clear a4 a5 aa a2 a3 a6
 rintro k ρ2 w2 ⟨a1,a0,a7⟩
 have ab:w.heap.size≤w2.heap.size:=a1.size
 have hml:=GK k (Di a y) (List.replicate a.length 0) sM
 rw[z5]at hml
 have hga:=BY hqa k
 refine ZN [0] Z ?_
 by_cases a8:(k:Int)<(a.length:Int)
 ·refine AE true Z Z (A5 a8) Aa<|Aj<|A0<|Ah Z<|A2<|A0<|A3<|ZN [0,0] Z<|Ac 2 Z<|Ab _ [0,0,0,0,0,2,0,0,0,0,4] Z<|Ad 4 Z<|Au (v:=va) k Bl BD Z Z ha.isSl Z sD Aa ?_
  refine Ae (p:=Aw va k 1) (.inr Z) (zI<|a.getD k 0) AC Z (Bc a1 (ha.getI sD).1) Aa<|Ad 1 Z<|IW (wr ((a.getD k 0)*y)) Z Z Z Aa<|EE (md (a.getD k 0*y)) Z Z (by decide) (NO hga hy) Aa ?_
  refine Au (v:=v1) k Bl BD Z Z a0.isSl Z sD Aa (GG (v:=v1) (w:=w2) I3 Z Z (Ei _) a0 sD Aa fun w4 F4 a9 ag ac ad=>?_)
  have ae:AF w w4:=a9.below a1 (fun c hc=>A8 (A7 _) (ac c hc).1) a1.size
  have af:=a9.size
  refine Aj<|Ab _ [0,0] Z<|AQ ((k+1:Nat):Int) Z Z (Be oM sD) Aa<|Ac 1 Z ?_
  exact⟨k+1,_,rfl,zR,⟨ae,(by unfold Di;rw[J1 sM oM];exact ad.up o1),sD⟩,zD⟩
 exact AE false Z Z (A6 a8) Aa<|Aj<|A0<|Ai Z<|A4<|Ay<|Ay<|At<|ZN [0,0] Z<|Ac 2 Z<|A1<|Af [4] Z v1 Z ⟨v1,rfl,a1,(by have h:=a0.up o1;rwa [HP sM (by simp;omega)]at h)⟩
theorem Ea (w:World)(va:Value)(a:Sr)(vb:Value)(b:Sr)(ha:Rd (B5 rI) w.heap va a)(hb:Rd (B5 rI) w.heap vb b)(hla:a.length≤1000000000000)(hl:a.length≤b.length)(hqa:B9 a=true)(hqb:B9 b=true) :
  Calls Tryz.prog 123 #[va,vb] w (fun e w'=>∃v0:Value,e=.returned (v0)∧AF w w'∧Fr (Bo rI 2) w.heap.size w'.heap.size w'.heap v0 (Cz a b)):=by
 refine As [va,vb] 30 Tryz.func123 Z Z sM ?_
 have a5:AF w w:=AF.refl w
 have ah:=ha.lenle
 have ai:=hb.lenle
 refine ZO Z<|ZN [0,0,3,0] Z<|Ad 1 Z<|AP (v:=va) Bl Z ha.isSl Aa (Fx (n:=a.length) Bl BD Z Z Z sD Aa fun v1 w1 a3 aa a6=>?_)
 have a4:=a3.size
 have a7:=a5.trans a3
 refine Ac 1 Z<|A0<|ZN [0,0,0] Z<|Ad 1 Z<|AP (v:=va) Bl Z ha.isSl Aa<|Ac 1 Z<|A3 ?_
 refine AT (S:=Nat) (fun k=>([(12,zI (k:Int)),(0,va),(1,vb),(5,v1),(11,zI (a.length:Int))])) (fun k W=>AF w W∧Fr (Bo rI 2) w.heap.size W.heap.size W.heap v1 (GJ k (Cz a b)<|List.replicate a.length 0)∧k≤a.length) (fun k=>a.length-k) 0 ⟨rfl,rfl,rfl,rfl,rfl,trivial⟩ ⟨a7,(by rw[FA];exact a6.up o1),sD⟩ ?_
 clear a5 a6 aa a3 a4 a7
 rintro k ρ2 w2 ⟨a1,a0,a8⟩
 have ab:w.heap.size≤w2.heap.size:=a1.size
 have hml:=GK k (Cz a b) (List.replicate a.length 0) sM
 rw[z5]at hml
 have hga:=BY hqa k
 have hgb:=BY hqb k
 refine ZN [0] Z ?_
 by_cases a9:(k:Int)<(a.length:Int)
 ·refine AE true Z Z (A5 a9) Aa<|Aj<|A0<|Ah Z<|A2<|A0<|A3<|ZN [0,0] Z<|Ac 2 Z<|AO _ [0,0,0,0,0,1,0,0,0,1,0,0,0,4] mixed (by kernel_rfl)<|Ad 4 Z<|Au (v:=va) k Bl BD Z Z ha.isSl Z sD Aa ?_
  refine Ae (p:=Aw va k 1) (.inl Z) (zI<|a.getD k 0) AC Z (Bc a1.drew (ha.getI sD).1) Aa<|Ad 2 Z ?_
  refine Au (v:=vb) k Bl BD Z Z hb.isSl Z sD Aa ?_
  refine Ae (p:=Aw vb k 1) (.inl Z) (zI<|b.getD k 0) AC Z (Bc a1.drew (hb.getI sD).1) Aa<|AQ (wr ((a.getD k 0)+(b.getD k 0))) Z Z Z Aa<|EE (md (a.getD k 0+b.getD k 0)) Z Z (by decide) (To hga hgb) Aa ?_
  refine Au (v:=v1) k Bl BD Z Z a0.isSl Z sD Aa (GG (v:=v1) (w:=w2.drew) I3 Z Z (Ei _) a0 sD Aa fun w4 F4 a2 ag ac ad=>?_)
  replace a2:=a2.of_drew
  have ae:AF w w4:=a2.below a1 (fun c hc=>A8 (A7 _) (ac c hc).1) a1.size
  have af:=a2.size
  refine Aj<|Ab _ [0,0] Z<|AQ ((k+1:Nat):Int) Z Z (Be oM sD) Aa<|Ac 1 Z ?_
  exact⟨k+1,_,rfl,zR,⟨ae,(by unfold Cz;rw[J1 sM oM];exact ad.up o1),sD⟩,zD⟩
 exact AE false Z Z (A6 a9) Aa<|Aj<|A0<|Ai Z<|A4<|Ay<|Ay<|At<|ZN [0,0] Z<|Ac 2 Z<|A1<|Af [4] Z v1 Z ⟨v1,rfl,a1,(by have h:=a0.up o1;rwa [HP sM (by simp;omega)]at h)⟩
theorem Hx (w:World)(va:Value)(a:Sr)(vb:Value)(b:Sr)(ha:Rd (B5 rI) w.heap va a)(hb:Rd (B5 rI) w.heap vb b)(hla:a.length≤1000000000000)(hlb:b.length≤1000000000000)(hl:a.length≤b.length)(hqa:B9 a=true)(hqb:B9 b=true) :
  Calls Tryz.prog 172 #[va,vb] w (fun e w'=>∃v0:Value,e=.returned (v0)∧AF w w'∧Fr (Bo rI 2) w.heap.size w'.heap.size w'.heap v0 (GL a b)):=by
 refine As [va,vb] 9 Tryz.func172 Z Z sM ?_
 have a7:AF w w:=AF.refl w
 have ab:=ha.lenle
 have ac:=hb.lenle
 refine ZO Z<|ZN [0,0,3,3,0] Z<|Ad 2 Z<|Am 174 [] [] [vb,zI ((1000002:Nat):Int)] Z Z My Aa (D9 _ _ _ _ (hb.ext g1 a7) oM hlb hqb oM) ?_
 rintro e1 w1 ⟨a3,rfl,a4,a0⟩
 refine⟨_,rfl,a4,?_⟩
 have a8:=a4.size
 have a5:=a7.trans a4
 refine Am 123 [] [] [va,a3] Z Z Og Aa (Ea _ _ _ _ _ (ha.ext g1 a5) a0.rd1 hla (by simp;omega) hqa (by exact Gm _ _)) ?_
 rintro e2 w2 ⟨a1,rfl,a6,a2⟩
 refine⟨_,rfl,a6,?_⟩
 have a9:=a6.size
 have aa:=a5.trans a6
 exact Ac 1 Z<|A1<|Af [4] Z a1 Z ⟨a1,rfl,aa,(by rw[← OE hl];exact(a2.up o1).low a5.size)⟩
theorem Dl (w:World)(va:Value)(a:Sr)(vb:Value)(b:Sr)(ha:Rd (B5 rI) w.heap va a)(hb:Rd (B5 rI) w.heap vb b)(hla:a.length≤1000000000000)(hl:a.length≤b.length)(hqa:B9 a=true)(hqb:B9 b=true) :
  Calls Tryz.prog 173 #[va,vb] w (fun e w'=>∃v0:Value,e=.returned (v0)∧AF w w'∧Fr (Bo rI 2) w.heap.size w'.heap.size w'.heap v0 (Cs a b)):=by
 refine As [va,vb] 43 Tryz.func173 Z Z sM ?_
 have a8:AF w w:=AF.refl w
 have am:=ha.lenle
 have an:=hb.lenle
 refine ZO Z<|ZN [0,0,3,0] Z<|Ad 1 Z<|AP (v:=va) Bl Z ha.isSl Aa (Fx (n:=a.length) Bl BD Z Z Z sD Aa fun v1 w1 a5 af a9=>?_)
 have a6:=a5.size
 have aa:=a8.trans a5
 refine Ac 1 Z<|A0<|ZN [0,0,0] Z<|Ad 1 Z<|AP (v:=va) Bl Z ha.isSl Aa<|Ac 1 Z<|A3 ?_
 refine AT (S:=Nat) (fun k=>([(13,zI (k:Int)),(0,va),(1,vb),(5,v1),(12,zI (a.length:Int))])) (fun k W=>AF w W∧Fr (Bo rI 2) w.heap.size W.heap.size W.heap v1 (GJ k (Cs a b)<|List.replicate a.length 0)∧k≤a.length) (fun k=>a.length-k) 0 ⟨rfl,rfl,rfl,rfl,rfl,trivial⟩ ⟨aa,(by rw[FA];exact a9.up o1),sD⟩ ?_
 clear a8 a9 af a5 a6 aa
 rintro k ρ2 w2 ⟨a3,a1,ab⟩
 have a7:w.heap.size≤w2.heap.size:=a3.size
 have hml:=GK k (Cs a b) (List.replicate a.length 0) sM
 rw[z5]at hml
 have hga:=BY hqa k
 refine ZN [0] Z ?_
 by_cases ac:(k:Int)<(a.length:Int)
 ·refine AE true Z Z (A5 ac) Aa<|Aj<|A0<|Ah Z<|A2<|A0<|A3<|ZN [0,0] Z<|Ac 2 Z<|ZO Z<|A3 ?_
  refine AT (S:=Nat) (fun i=>([(7,zI (i:Int)),(0,va),(1,vb),(5,v1),(6,zI (k:Int)),(12,zI (a.length:Int)),(13,zI (k:Int))])) (fun i W=>AF w W∧Fr (Bo rI 2) w.heap.size W.heap.size W.heap v1 ((GJ k (Cs a b)<|List.replicate a.length 0).set k<|Qi a b k i)∧i≤k+1) (fun i=>k+1-i) 0 ⟨rfl,rfl,rfl,rfl,rfl,rfl,rfl,trivial⟩ ⟨a3,(by have h:=a1.up o1;rw[← R7 (T:=Cs a b) sM oM]at h;exact h),sD⟩ ?_
  clear a1 a3 a7
  rintro i ρ4 w4 ⟨a2,a0,ad⟩
  have ag:w.heap.size≤w4.heap.size:=a2.size
  have hms:((GJ k (Cs a b) (List.replicate a.length 0)).set k (Qi a b k i)).length=a.length:=by rw[z6];exact hml
  refine A0<|ZN [0,0,0] Z<|Ad 2 Z ?_
  by_cases ae:(i:Int)≤(k:Int)
  ·refine Fw true Z Z (A5 ae) Aa<|Aj<|Ah Z<|A2<|A0<|A3<|AO _ [0,0,0,0,0,1,0,0,0,1,0,0,0,0,0,1,0,0,0,0,4] mixed (by kernel_rfl)<|Ad 4 Z<|Au (v:=v1) k Bl BD Z Z a0.isSl Z sD Aa ?_
   refine Ae (p:=Aw v1 k 1) (.inl Z) (zI<|((GJ k (Cs a b)<|List.replicate a.length 0).set k<|Qi a b k i).getD k 0) AC Z (a0.rd1.getI sD).1 Aa (Ad 2 Z ?_)
   refine Au (v:=va) i Bl BD Z Z ha.isSl Z sD Aa ?_
   refine Ae (p:=Aw va i 1) (.inl Z) (zI<|a.getD i 0) AC Z (Bc a2.drew (ha.getI sD).1) Aa<|Ad 3 Z<|Bi ((k-i:Nat):Int) Z Z (Be oM oM) Aa ?_
   refine Au (v:=vb) (k-i) Bl BD Z Z hb.isSl Z sD Aa ?_
   refine Ae (p:=Aw vb (k-i) 1) (.inl Z) (zI<|b.getD (k-i) 0) AC Z (Bc a2.drew (hb.getI sD).1) Aa<|IW (wr ((a.getD i 0)*(b.getD (k-i) 0))) Z Z Z Aa<|AQ (wr ((((GJ k (Cs a b)<|List.replicate a.length 0).set k<|Qi a b k i).getD k 0)+(wr ((a.getD i 0)*(b.getD (k-i) 0))))) Z Z Z Aa ?_
   refine EE (md (Qi a b k i+a.getD i 0*b.getD (k-i) 0)) Z Z (by decide) (by rw[FB _ _ _ _ _ oM,if_pos rfl];exact Vp (Pl _ _ _ _) (BY hqa _) (BY hqb _)) Aa<|Au (v:=v1) k Bl BD Z Z a0.isSl Z sD Aa ?_
   refine GG (v:=v1) (w:=w4.drew) I3 Z Z (Ei _) a0 sD Aa fun w6 F6 a4 al ah ai=>?_
   replace a4:=a4.of_drew
   have aj:AF w w6:=a4.below a2 (fun c hc=>A8 (A7 _) (ah c hc).1) a2.size
   have ak:=a4.size
   refine Aj<|Ab _ [0,0,0] Z<|Ad 1 Z<|AQ ((i+1:Nat):Int) Z Z (Be oM sD) Aa<|Ac 1 Z ?_
   exact⟨i+1,_,rfl,zR,⟨aj,(by have h:=ai.up o1;rw[List.set_set]at h;exact h),sD⟩,zD⟩
  refine Fw false Z Z (A6 ae) Aa<|Aj<|Ai Z<|A4<|Ay<|Ay<|At<|Ab _ [0,0] Z<|AQ ((k+1:Nat):Int) Z Z (Be oM sD) Aa<|Ac 1 Z ?_
  exact⟨k+1,_,rfl,zR,⟨a2,(by have h:=a0.up o1;rw[show i=k+1 from by omega]at h;unfold Cs;rw[J1 sM oM];exact h),sD⟩,zD⟩
 exact AE false Z Z (A6 ac) Aa<|Aj<|A0<|Ai Z<|A4<|Ay<|Ay<|At<|ZN [0,0] Z<|Ac 2 Z<|A1<|Af [4] Z v1 Z ⟨v1,rfl,a3,(by have h:=a1.up o1;rwa [HP sM (by simp;omega)]at h)⟩
theorem EV (w:World)(va:Value)(a:Sr)(vb:Value)(b:Sr)(ha:Rd (B5 rI) w.heap va a)(hb:Rd (B5 rI) w.heap vb b)(hla:a.length≤1000000000000)(hl:a.length≤b.length)(h1:0<b.length)(hqa:B9 a=true)(hqb:B9 b=true) :
  Calls Tryz.prog 175 #[va,vb] w (fun e w'=>∃v0:Value,e=.returned (v0)∧AF w w'∧Fr (Bo rI 2) w.heap.size w'.heap.size w'.heap v0 (Cm a b)):=by
 refine As [va,vb] 53 Tryz.func175 Z Z sM ?_
 have a5:AF w w:=AF.refl w
 have am:=ha.lenle
 have an:=hb.lenle
 refine ZO Z<|A0<|AO _ [0,0,3,0,0,1,0,0,0] mixed (by kernel_rfl)<|Ad 1 Z<|AP (v:=va) Bl Z ha.isSl Aa (Fx (n:=a.length) Bl BD Z Z Z sD Aa fun v1 w1 a2 ae a7=>?_)
 replace a2:=a2.of_drew
 have a6:=a2.size
 have a8:=a5.trans a2
 refine Ad 1 Z<|Au (v:=vb) 0 Bl BD Z Z hb.isSl Z sD Aa ?_
 refine Ae (p:=Aw vb 0 1) (.inl Z) (zI<|b.getD 0 0) AC Z (Bc a5.drew (hb.getI sD).1) Aa ?_
 refine AB 212 [] [] [zI<|b.getD 0 0] Z Z UO Aa (zI<|inv<|b.getD 0 0) (fun wq=>Hw wq _ (hb.getI sD).2)<|Ac 2 Z<|A0<|ZN [0,0,0] Z<|Ad 1 Z<|AP (v:=va) Bl Z ha.isSl Aa<|Ac 1 Z<|A3 ?_
 refine AT (S:=Nat) (fun k=>([(19,zI (k:Int)),(0,va),(1,vb),(5,v1),(6,zI<|inv<|b.getD 0 0),(18,zI (a.length:Int))])) (fun k W=>AF w W∧Fr (Bo rI 2) w.heap.size W.heap.size W.heap v1 (GJ k (Cm a b)<|List.replicate a.length 0)∧k≤a.length) (fun k=>a.length-k) 0 ⟨rfl,rfl,rfl,rfl,rfl,rfl,trivial⟩ ⟨a8,(by rw[FA];exact a7.up o1),sD⟩ ?_
 clear a5 a7 ae a2 a6 a8
 rintro k ρ3 w3 ⟨a4,a1,a9⟩
 have af:w.heap.size≤w3.heap.size:=a4.size
 have hml:=GK k (Cm a b) (List.replicate a.length 0) sM
 rw[z5]at hml
 have hga:=BY hqa k
 refine ZN [0] Z ?_
 by_cases aa:(k:Int)<(a.length:Int)
 ·refine AE true Z Z (A5 aa) Aa<|Aj<|A0<|Ah Z<|A2<|A0<|A3<|ZN [0,0] Z<|Ac 2 Z<|ZN [0,0,0,2,0] Z<|Ad 2 Z<|Au (v:=va) k Bl BD Z Z ha.isSl Z sD Aa ?_
  refine Ae (p:=Aw va k 1) (.inr Z) (zI<|a.getD k 0) AC Z (Bc a4 (ha.getI sD).1) Aa<|Ac 1 Z<|A0<|ZO Z<|A3 ?_
  refine AT (S:=Nat×Int) (fun⟨i,t⟩=>([(8,zI t),(9,zI (i:Int)),(0,va),(1,vb),(5,v1),(6,zI<|inv<|b.getD 0 0),(7,zI (k:Int)),(18,zI (a.length:Int)),(19,zI (k:Int))])) (fun⟨i,t⟩ W=>AF w W∧Fr (Bo rI 2) w.heap.size w3.heap.size W.heap v1 (GJ k (Cm a b)<|List.replicate a.length 0)∧i≤k∧t=R6 a b (Cm a b) k i∧(0≤t∧t<1000003)) (fun⟨i,t⟩=>k-i) (0,a.getD k 0) ⟨rfl,rfl,rfl,rfl,rfl,rfl,rfl,rfl,rfl,trivial⟩ ⟨a4,a1,sD,(by rfl),(by exact BY hqa k)⟩ ?_
  clear a1
  rintro⟨i,t⟩ ρ5 w5 ⟨a3,a0,ab,ht,htr⟩
  have ag:w.heap.size≤w5.heap.size:=a3.size
  refine A0<|ZN [0,0,0] Z<|Ad 2 Z ?_
  by_cases ac:(i:Int)<(k:Int)
  ·refine AE true Z Z (A5 ac) Aa<|Aj<|Ah Z<|A2<|A0<|A3<|AO _ [0,0,0,0,1,0,0,0,0,0,1,0,0,0] mixed (by kernel_rfl)<|Ad 3 Z<|Au (v:=v1) i Bl BD Z Z a0.isSl Z sD Aa ?_
   refine Ae (p:=Aw v1 i 1) (.inl Z) (zI<|(GJ k (Cm a b)<|List.replicate a.length 0).getD i 0) AC Z (a0.rd1.getI sD).1 Aa (Ad 3 Z<|Bi ((k-i:Nat):Int) Z Z (Be oM oM) Aa ?_)
   refine Au (v:=vb) (k-i) Bl BD Z Z hb.isSl Z sD Aa ?_
   refine Ae (p:=Aw vb (k-i) 1) (.inl Z) (zI<|b.getD (k-i) 0) AC Z (Bc a3.drew (hb.getI sD).1) Aa<|IW (wr (((GJ k (Cm a b)<|List.replicate a.length 0).getD i 0)*(b.getD (k-i) 0))) Z Z Z Aa ?_
   refine AB 213 [] [] [zI t,zI<|wr (((GJ k (Cm a b)<|List.replicate a.length 0).getD i 0)*(b.getD (k-i) 0))] Z Z So Aa (zI<|md (t-(wr (((GJ k (Cm a b)<|List.replicate a.length 0).getD i 0)*(b.getD (k-i) 0))))) (fun wq=>GU wq _ _ oM<|MD _)<|Ac 1 Z<|Ab _ [0,0,0] Z<|Ad 1 Z<|AQ ((i+1:Nat):Int) Z Z (Be oM sD) Aa<|Ac 1 Z ?_
   exact⟨(i+1,md (t-(wr (((GJ k (Cm a b) (List.replicate a.length 0)).getD i 0)*(b.getD (k-i) 0))))),_,rfl,zR,⟨a3.drew,a0,sD,(by rw[ht,Vo 0 oM (by simp;omega)];exact R8 (Gk a b) hqb),(by exact Cr _)⟩,zD⟩
  refine AE false Z Z (A6 ac) Aa<|Aj<|Ai Z<|A4<|Ay<|Ay<|At<|Ab _ [0,0,0,0,0,0,0,4] Z<|Ad 4 Z<|IW (wr (t*(inv<|b.getD 0 0))) Z Z Z Aa<|EE (md (t*inv (b.getD 0 0))) Z Z (by decide) (NO htr<|Tf _) Aa<|Au (v:=v1) k Bl BD Z Z a0.isSl Z sD Aa ?_
  refine GG (v:=v1) (w:=w5) I3 Z Z (Ei _) a0 sD Aa fun w8 F8 ad al ah ai=>?_
  have aj:AF w w8:=ad.below a3 (fun c hc=>A8 (A7 _) (ah c hc).1) a3.size
  have ak:=ad.size
  refine Aj<|Ab _ [0,0] Z<|AQ ((k+1:Nat):Int) Z Z (Be oM sD) Aa<|Ac 1 Z ?_
  exact⟨k+1,_,rfl,zR,⟨aj,(by have h:=ai.up o1;rw[ht,show i=k from by omega]at h;rw[← Tn oM sM];exact h),sD⟩,zD⟩
 exact AE false Z Z (A6 aa) Aa<|Aj<|A0<|Ai Z<|A4<|Ay<|Ay<|At<|ZN [0,0] Z<|Ac 2 Z<|A1<|Af [4] Z v1 Z ⟨v1,rfl,a4,(by have h:=a1.up o1;rwa [HP sM (by simp;omega)]at h)⟩
theorem Ls (w:World)(va:Value)(a:Sr)(ha:Rd (B5 rI) w.heap va a)(hla:a.length≤1000000000000) :
  Calls Tryz.prog 130 #[va] w (fun e w'=>∃v0:Value,e=.returned (v0)∧AF w w'∧Fr (Bo (Bo rI 2) 27) w.heap.size w'.heap.size w'.heap v0 (Cq a)):=by
 refine As [va] 20 Tryz.func130 Z Z sM ?_
 have a9:AF w w:=AF.refl w
 have au:=ha.lenle
 refine ZO Z<|ZN [3,0] Z (Cp (Bo rI 2) o1 Bs AV Aa fun v1 w1 a4 af aa=>?_)
 have a5:=a4.size
 have ab:=a9.trans a4
 refine Ac 1 Z<|A0<|ZN [0,0,0] Z<|Ad 1 Z<|AP (v:=va) Bl Z ha.isSl Aa<|Ac 1 Z<|A3 ?_
 refine AT (S:=Nat×Value) (fun⟨k,vo⟩=>([(3,vo),(9,zI (k:Int)),(7,va),(8,zI (a.length:Int))])) (fun⟨k,vo⟩ W=>AF w W∧Fr (Bo (Bo rI 2) 27) w.heap.size W.heap.size W.heap vo ((a.take k).map fun x=>[x])∧k≤a.length) (fun⟨k,vo⟩=>a.length-k) (0,v1) ⟨rfl,rfl,rfl,rfl,trivial⟩ ⟨ab,aa.up o2,sD⟩ ?_
 clear a9 aa af a4 a5 ab
 rintro⟨k,vo⟩ ρ2 w2 ⟨a3,a2,ac⟩
 have ag:w.heap.size≤w2.heap.size:=a3.size
 refine ZN [0] Z ?_
 by_cases ad:(k:Int)<(a.length:Int)
 ·refine AE true Z Z (A5 ad) Aa<|Aj<|A0<|Ah Z<|A2<|A0<|A3<|ZN [0,2,0] Z<|Au (v:=va) k Bl BD Z Z ha.isSl Z sD Aa ?_
  refine Ae (p:=Aw va k 1) (.inr Z) (zI<|a.getD k 0) AC Z (Bc a3 (ha.getI sD).1) Aa<|Ac 1 Z<|Ab _ [0,0,3,3,4,0] Z<|Ad 2 Z ?_
  refine By (u:=zI<|a.getD k 0) (B:=w2.heap.size) AK Bl BD Z Z (Mb w2.heap.size w2.heap.size _ _ (ha.getI sD).2) (A7 _) Aa fun v4 w4 a6 aq ah=>?_
  have ai:=a6.size
  have aj:=a3.trans a6
  have a0:=a2.ext (o2) a6
  refine By (u:=v4) (B:=w2.heap.size) o1 Bs AV Z Z ah (by first|exact A7 _|omega) Aa fun v5 w5 a7 ar ak=>?_
  have al:=a7.size
  have a8:=aj.trans a7
  have a1:=a0.ext (o2) a7
  refine GF o1 (v:=vo) (a:=v5) Bs AV Z Z Z a1 a8.size ak oM a3.size sD (by unfold maxLen;first|omega|assumption|(simp;done)|(simp;omega)) Aa fun v6 w6 F6 ae am an=>?_
  have ao:AF w w6:=ae.below a8 (fun c hc=>A8 (A7 _) (am c hc).1) a8.size
  have ap:=ae.size
  refine Ac 1 Z<|Ab _ [0,0] Z<|AQ ((k+1:Nat):Int) Z Z (Be oM sD) Aa<|Ac 1 Z ?_
  exact⟨(k+1,v6),_,rfl,zR,⟨ao,(by rw[Hg 0 oM];exact an.up o2),sD⟩,zD⟩
 exact AE false Z Z (A6 ad) Aa<|Aj<|A0<|Ai Z<|A4<|Ay<|Ay<|At<|ZN [0,0] Z<|Ac 2 Z<|A1<|Af [2] Z vo Z ⟨vo,rfl,a3,(by have h:=a2.up o2;rwa [za oM]at h)⟩
theorem Ie (w:World)(va:Value)(a:List (Sr))(ha:Rd (B5 (B5 rI)) w.heap va a)(hla:a.length≤1000000000000)(h1:∀k,k<a.length→0<(a.getD k []).length) :
  Calls Tryz.prog 61 #[va] w (fun e w'=>∃v0:Value,e=.returned (v0)∧AF w w'∧Fr (Bo rI 2) w.heap.size w'.heap.size w'.heap v0 (a.map (fun s=>s.getD 0 0))):=by
 refine As [va] 21 Tryz.func61 Z Z sM ?_
 have aa:AF w w:=AF.refl w
 have au:=ha.lenle
 refine ZO Z<|ZN [3,0] Z (Cp (rI) AK Bl BD Aa fun v1 w1 a4 ah ab=>?_)
 have a5:=a4.size
 have ac:=aa.trans a4
 refine Ac 1 Z<|A0<|ZN [0,0,0] Z<|Ad 1 Z<|AP (v:=va) Bs Z ha.isSl Aa<|Ac 1 Z<|A3 ?_
 refine AT (S:=Nat×Value) (fun⟨k,vo⟩=>([(3,vo),(9,zI (k:Int)),(7,va),(8,zI (a.length:Int))])) (fun⟨k,vo⟩ W=>AF w W∧Fr (Bo rI 2) w.heap.size W.heap.size W.heap vo ((a.take k).map fun s=>s.getD 0 0)∧k≤a.length) (fun⟨k,vo⟩=>a.length-k) (0,v1) ⟨rfl,rfl,rfl,rfl,trivial⟩ ⟨ac,ab.up o1,sD⟩ ?_
 clear aa ab ah a4 a5 ac
 rintro⟨k,vo⟩ ρ2 w2 ⟨a2,a1,ad⟩
 have ai:w.heap.size≤w2.heap.size:=a2.size
 refine ZN [0] Z ?_
 by_cases ae:(k:Int)<(a.length:Int)
 ·refine AE true Z Z (A5 ae) Aa<|Aj<|A0<|Ah Z<|A2<|A0<|A3<|ZN [0,2,0] Z<|Au (v:=va) k Bs AV Z Z ha.isSl Z sD Aa ?_
  obtain⟨a6,aj,a3⟩:=ha.get (k:=k) [] sD
  have ak:=a3.lenle
  refine Ae (p:=Aw va k 1) (.inr Z) a6 AZ Z (Bc a2 aj) Aa<|Ac 1 Z<|Ab _ [0,0,0,2,3,4,0] Z ?_
  have ap:=h1 k oM
  refine Ad 2 Z<|Au (v:=a6) 0 Bl BD Z Z a3.isSl Z sD Aa ?_
  refine Ae (p:=Aw a6 0 1) (.inr Z) (zI<|(a.getD k []).getD 0 0) AC Z (Bc a2 (a3.getI sD).1) Aa ?_
  refine By (u:=zI<|(a.getD k []).getD 0 0) (B:=w2.heap.size) AK Bl BD Z Z (Mb w2.heap.size w2.heap.size _ _ (a3.getI sD).2) (A7 _) Aa fun v5 w5 a7 aq af=>?_
  have al:=a7.size
  have a8:=a2.trans a7
  have a0:=a1.ext (o1) a7
  refine Hf (v:=vo) (a:=v5) Bl BD Z Z Z a0 a8.size af.rd1 sD (by unfold maxLen;first|omega|assumption|(simp;done)|(simp;omega)) Aa fun v6 w6 F6 a9 ag am=>?_
  have an:AF w w6:=a9.below a8 (fun c hc=>A8 (A7 _) (ag c hc).1) a8.size
  have ao:=a9.size
  have ar:=af.chg (o1) a9 fun c hc=>zH<|ag c hc
  refine Ac 1 Z<|Ab _ [0,0] Z<|AQ ((k+1:Nat):Int) Z Z (Be oM sD) Aa<|Ac 1 Z ?_
  exact⟨(k+1,v6),_,rfl,zR,⟨an,(by rw[Hg [] oM];exact am.up o1),sD⟩,zD⟩
 exact AE false Z Z (A6 ae) Aa<|Aj<|A0<|Ai Z<|A4<|Ay<|Ay<|At<|ZN [0,0] Z<|Ac 2 Z<|A1<|Af [2] Z vo Z ⟨vo,rfl,a2,(by have h:=a1.up o1;rwa [za oM]at h)⟩
def PV (F d:Nat):Prop:=∀(w:World) (S:List Nat) (g:Nat) (vp:Value) (dp o s0:Nat) (c0:Int) (p:List Fn) (ve:Value) (ex:Ex) (vv:Value) (env:List (List Int)) (hS:∀b∈S,b<w.heap.size) (hgS:g∈S) (hB0:BX w.heap g [vp,.int .i64 ((o:Nat):Int),.int .i64 ((s0:Nat):Int),.int .i64 c0]) (hp:RP S dp w.heap vp p) (ho:o≤12) (hs0:s0≤3000) (hc0:0≤c0∧c0≤9) (hex:RX S d w.heap ve ex) (henv:RN S (B5 (B5 rI)) w.heap vv env) (hqenv:BV vv)
  (hvp:FY p) (hF:F≤p.length) (hwf:wf p ((F:Nat):Int) ex ((env.length:Nat):Int)=true) (hse:C7 (o+1) env) (hdp:env.length+ex.deep≤1000000),
  Calls Tryz.prog 234 #[.pointer (some ⟨g,0,none⟩),.agg #[.int .i64 ex.kind,.int .i64 ex.num,.int .i64 ex.pick,.int .i64 ex.count,ve],vv] w (fun e w'=>∃(v:Value) (x:List Int) (s1:Nat) (c1:Int),e=.returned v∧AA [g] w w'∧BX w'.heap g [vp,.int .i64 ((o:Nat):Int),.int .i64 ((s1:Nat):Int),.int .i64 c1]∧RN S (B5 rI) w'.heap v x∧D2 (o+1) x∧s1≤3000∧(0≤c1∧c1≤9)∧AM (go c0 (CZ (o+1) (Fb p (o+1) F) ex env s0)) x s1 c1)
def PA (F d:Nat):Prop:=∀(w:World) (S:List Nat) (g:Nat) (vp:Value) (dp o s0:Nat) (c0:Int) (p:List Fn) (vl:Value) (l:List Ex) (vv:Value) (env:List (List Int)) (hS:∀b∈S,b<w.heap.size) (hgS:g∈S) (hB0:BX w.heap g [vp,.int .i64 ((o:Nat):Int),.int .i64 ((s0:Nat):Int),.int .i64 c0]) (hp:RP S dp w.heap vp p) (ho:o≤12) (hs0:s0≤3000) (hc0:0≤c0∧c0≤9) (hl:RN S (Cj 5 (H0 d)) w.heap vl l) (henv:RN S (B5 (B5 rI)) w.heap vv env) (hqenv:BV vv)
  (hvp:FY p) (hF:F≤p.length) (hwf:∀k,k<l.length→wf p ((F:Nat):Int) (l.getD k Ex.zero) ((env.length:Nat):Int)=true) (hse:C7 (o+1) env) (hdp:∀k,k<l.length→env.length+(l.getD k Ex.zero).deep≤1000000) (hll:l.length≤1000000),
  Calls Tryz.prog 201 #[.pointer (some ⟨g,0,none⟩),vl,vv] w (fun e w'=>∃(v:Value) (x:List (List Int)) (s1:Nat) (c1:Int),e=.returned v∧AA [g] w w'∧BX w'.heap g [vp,.int .i64 ((o:Nat):Int),.int .i64 ((s1:Nat):Int),.int .i64 c1]∧RN S (B5 (B5 rI)) w'.heap v x∧(BV v∧x.length=l.length∧C7 (o+1) x)∧s1≤3000∧(0≤c1∧c1≤9)∧AM (go c0 (DY (o+1) (Fb p (o+1) F) l env s0)) x s1 c1)
theorem Eb (w:World)(v:Value)(n:Nat)(hs:Fu v n)(hcs:BV v)  :
  Calls Tryz.prog 253 #[v] w (fun e w'=>e=.returned (DR v)∧w'=w):=by
 refine As [v] 9 Tryz.func253 Z Z sM ?_
 have a0:w=w:=rfl
 exact ZO Z<|ZN [0,0,0,0,0,0,0] Z<|Ad 2 Z<|AP (v:=v) Bs Z hs Aa<|Ad 1 Z<|AP (v:=v) Bs Z hs Aa<|QJ (v:=v) Bs AV Z hs Z Z hcs Aa<|Ac 1 Z<|A1<|Af [2] Z (DR v) Z ⟨rfl,a0⟩
theorem BI (w:World)(S:List Nat)(g:Nat)(vp:Value)(dp o s0:Nat)(c0:Int)(p:List Fn)(n:Int)(hS:∀b∈S,b<w.heap.size)(hgS:g∈S)(hB0:BX w.heap g [vp,zI (o:Int),zI (s0:Int),zI c0])(hp:RP S dp w.heap vp p)(ho:o≤12)(hs0:s0≤3000)(hc0:0≤c0∧c0≤9)(_hn:Bk n)  :
  Calls Tryz.prog 252 #[zP g,zI n] w (fun e w'=>∃v0:Value,e=.returned (v0)∧AF w w'∧Fr (Bo rI 2) w.heap.size w'.heap.size w'.heap v0 (HQ (o+1) n)):=by
 refine As [zP g,zI n] 16 Tryz.func252 Z Z sM ?_
 have a6:AF w w:=AF.refl w
 have a0:=hp.lenle
 unfold maxLen at a0
 have ad:=hB0.lt
 refine ZO Z<|ZN [0,0,0,2,0,3,0] Z<|Ad 1 Z<|Bb Z Aa<|Ak (p:=zP g) 1 U7 Z Z Aa<|Ae (p:=An (zP g) 1) (.inr Z) (zI (o:Int)) Sp Z (hB0.ldp (i:=1) sM) Aa<|AQ ((o+1:Nat):Int) Z Z (Be oM oM) Aa ?_
 refine Fx (n:=o+1) Bl BD Z Z Z sD Aa fun v1 w1 a1 ab a3=>?_
 have a7:=a1.size
 have a4:=a6.trans a1
 refine Ac 1 Z<|ZN [0,0,0,4] Z<|Ad 2 Z<|Au (v:=v1) 0 Bl BD Z Z a3.isSl Z sM Aa (GG (v:=v1) (w:=w1) I3 Z Z _hn a3 sM Aa fun w2 F2 a2 ac a5 a8=>?_)
 have a9:AF w w2:=a2.below a4 (fun c hc=>A8 (A7 _) (a5 c hc).1) a4.size
 have aa:=a2.size
 exact Aj<|ZN [0,0] Z<|Ac 2 Z<|A1<|Af [4] Z v1 Z ⟨v1,rfl,a9,a8.up o1⟩
theorem H9 (w:World)(S:List Nat)(F:Nat)(g:Nat)(vp:Value)(dp o s0:Nat)(c0:Int)(p:List Fn)(dl:Nat)(vl:Value)(l:List Ex)(vv:Value)(env:List (Sr))(hS:∀b∈S,b<w.heap.size)(hgS:g∈S)(hB0:BX w.heap g [vp,zI (o:Int),zI (s0:Int),zI c0])(hp:RP S dp w.heap vp p)(ho:o≤12)(hs0:s0≤3000)(hc0:0≤c0∧c0≤9)(hl:RN S (Cj 5 (H0 dl)) w.heap vl l)(henv:RN S (B5 (B5 rI)) w.heap vv env)(hqenv:BV vv)(hvp:FY p)(hF:F≤p.length)(hwf:∀k,k<l.length→wf p (F:Int) (l.getD k Ex.zero) (env.length:Int)=true)(hse:C7 (o+1) env)(hdp:∀k,k<l.length→env.length+(l.getD k Ex.zero).deep≤1000000)(hll:l.length≤1000000)(IHv:∀d',d'<dl→PV F d') :
  Calls Tryz.prog 201 #[zP g,vl,vv] w (fun e w'=>∃(v:Value) (x:List (Sr)) (s1:Nat) (c1:Int),e=.returned v∧AA [g] w w'∧BX w'.heap g [vp,zI (o:Int),zI (s1:Int),zI c1]∧RN S (B5 (B5 rI)) w'.heap v x∧(BV v∧x.length=l.length∧C7 (o+1) x)∧s1≤3000∧(0≤c1∧c1≤9)∧AM (go c0 (DY (o+1) (Fb p (o+1) F) l env s0)) x s1 c1):=by
 refine As [zP g,vl,vv] 26 Tryz.func201 Z Z sM ?_
 have b2:AA [g] w w:=AA.refl [g] w
 have c2:=hp.lenle
 unfold maxLen at c2
 have c3:=hl.lenle
 unfold maxLen at c3
 have c4:=henv.lenL
 unfold maxLen at c4
 have ch:=hB0.lt
 refine ZO Z<|ZN [3,0] Z (Cp rV Bv Bs AV Aa fun v1 w1 ai bh b3=>?_)
 have am:=ai.size
 have b4:AA [g] w w1:=b2.ext ai
 have ag:=hB0.ext ai
 obtain⟨bs,F1,bt⟩:=GI.nil (S:=S) (b3.low (B':=w.heap.size) (A7 _))
 refine Ac 1 Z<|A0<|ZN [0,0,0] Z<|Ad 1 Z<|AP (v:=vl) CB Z hl.isSl Aa<|Ac 1 Z<|A3 ?_
 refine AT (S:=Nat×Value×List (Sr)×Nat×Int) (fun⟨k,vo,xs,s9,c9⟩=>([(7,vo),(13,zI (k:Int)),(0,zP g),(2,vv),(11,vl),(12,zI (l.length:Int))])) (fun⟨k,vo,xs,s9,c9⟩ W=>AA [g] w W∧BX W.heap g [vp,zI (o:Int),zI (s9:Int),zI c9]∧k≤l.length∧NH 27 S w.heap.size W.heap vo xs∧xs.length=k∧C7 (o+1) xs∧s9≤3000∧(0≤c9∧c9≤9)∧AM (go c0<|DY (o+1) (Fb p (o+1) F) (l.take k) env s0) xs s9 c9) (fun⟨k,vo,xs,s9,c9⟩=>l.length-k) (0,v1,([]:List (Sr)),s0,c0) ⟨rfl,rfl,rfl,rfl,rfl,rfl,trivial⟩ ⟨b4,ag,sD,(by exact⟨_,_,by assumption⟩),(by rfl),(by intro j hj;simp at hj),oM,oM,(by exact Gp _ _ _ _ _ _)⟩ ?_
 clear b2 b3 bh ai am b4
 rintro⟨k,vo,xs,s9,c9⟩ ρ2 w2 ⟨aj,a0,b5,hbld,hxl,hxs,b6,b7,hrl⟩
 have bi:w.heap.size≤w2.heap.size:=aj.size
 have bu:=a0.lt
 obtain⟨bv,F5,a3⟩:=hbld
 refine ZN [0] Z ?_
 by_cases b8:(k:Int)<(l.length:Int)
 ·refine AE true Z Z (A5 b8) Aa<|Aj<|A0<|Ah Z<|A2<|A0<|A3<|ZN [0,2,3,4] Z ?_
  have hkl:k<l.length:=by omega
  refine Au (v:=vl) k CB Bf Z Z hl.isSl Z sD Aa ?_
  obtain⟨cs7,bj,bk⟩:=hl.get (Aq dl) Ex.zero (k:=k) sD
  obtain⟨dd7,ae,bw,rfl,ak⟩:=RX.of bj
  have an:=ak.rn.lenle
  unfold maxLen at an
  refine AJ (p:=Aw vl k 5) (.inr Z) [zI<|(l.getD k Ex.zero).kind,zI<|(l.getD k Ex.zero).num,zI<|(l.getD k Ex.zero).pick,zI<|(l.getD k Ex.zero).count,ae] Bx Z (fun c8 ao=>bk c8<|(aj.sub<|B2 hgS).ext ao) Z Aa ?_
  have bx:=a0.lt
  refine Br (z:=.agg #[zI 0,zI 0,zI 0,zI 0,zN]) K9 Aa fun w8 af bz ap=>?_
  have bl:=af.size
  have bm:AA [g] w w8:=aj.ext af
  have a4:=a0.ext af
  have bn:=a3.ext af
  replace ap:BX w8.heap w2.heap.size [zI 0,zI 0,zI 0,zI 0,zN]:=ap
  refine Ce (vs:=[zI<|(l.getD k Ex.zero).kind,zI<|(l.getD k Ex.zero).num,zI<|(l.getD k Ex.zero).pick,zI<|(l.getD k Ex.zero).count,ae]) Bx Z Z ak.ones ap Z Z Aa fun c6 a5 bo a6=>?_
  replace a6:BX c6.heap w2.heap.size [zI ((l.getD k Ex.zero).kind),zI ((l.getD k Ex.zero).num),zI ((l.getD k Ex.zero).pick),zI ((l.getD k Ex.zero).count),ae]:=a6
  have a7:AA [g] w c6:=bm.fresh a5 (fun _ h=>zE h)
  have b9:=a5.size
  have aq:=a4.chg a5 (zB ·)
  have a2:=a3.ext<|a5.below af (fun _ h=>zE h) af.size
  refine Aj<|Ab _ [0,0,2,0,4,3,4,0] Z<|Ad 2 Z<|AJ (p:=zP w2.heap.size) (.inr Z) [zI<|(l.getD k Ex.zero).kind,zI<|(l.getD k Ex.zero).num,zI<|(l.getD k Ex.zero).pick,zI<|(l.getD k Ex.zero).count,ae] Bx Z (fun c8 ao=>LD.of_box<|BX.ext (w:=c6) a6 ao) Z Aa<|Ad 1 Z ?_
  refine AI 234 [] [] [zP g,.agg #[zI<|(l.getD k Ex.zero).kind,zI<|(l.getD k Ex.zero).num,zI<|(l.getD k Ex.zero).pick,zI<|(l.getD k Ex.zero).count,ae],vv] Z Z Lj Aa (IHv dd7 oM _ (S++F5) g vp dp (o) (s9) (c9) (p) ae (l.getD k Ex.zero) vv (env) (fun b hb=>(by rcases zi.1 hb with hb|hb;(have:=hS b hb;omega);exact a2.lt b hb:b<c6.heap.size)) (z8 _ hgS) aq ((hp.add (F:=F5) (Al<|Ax dp) a2.low).chg (Al<|Ax dp)<|a7.sub<|LP hgS) oM oM oM ⟨ak.rng,(ak.rn.add (F:=F5) (Al<|Aq dd7) a2.low).chg (Al<|Aq dd7)<|a7.sub<|LP hgS⟩ ((henv.add (F:=F5) g2 a2.low).chg g2<|a7.sub<|LP hgS) hqenv hvp oM (by exact hwf k hkl) hse (by exact hdp k hkl)) ?_
  rintro ci c5 ⟨c7,ca,cb,cc,rfl,a8,ar,a9,ah,ba,bb,bc⟩
  refine⟨_,rfl,?_⟩
  have bd:=a8.size
  have au:AA [g] w c5:=a7.trans a8
  have av:=a6.chg a8 (zB ·)
  have aw:=a2.run hgS oM a8
  have be:=ah.1
  replace a9:RN (S++F5) (B5 rI) c5.heap c7 ca:=a9
  refine By (u:=c7) (B:=c5.heap.size) Bv Bs AV Z Z (LN c5.heap.size c5.heap.size _<|a9.one1 g1) (A7 _) Aa fun cd ce a1 bp ax=>?_
  have bf:=a1.size
  have ay:AA [g] w ce:=au.ext a1
  have aa:=ar.ext a1
  have al:=av.ext a1
  have ab:=aw.ext a1
  have az:=a9.ext g1 a1
  refine CX (v:=vo) (a:=cd) (u:=c7) Bs AV Z Z Z ab oM ax az sD (by unfold maxLen;first|omega|assumption|(simp;done)|(simp;omega)) Aa ?_
  rintro cf cg G24 ac ad ⟨bq,cj,br⟩
  have bg:=ac.size
  have b0:AA [g] w cg:=ay.fresh ac (fun c hc=>ab.low c (ad c hc))
  have b1:=aa.chg ac fun hm=>by have:=ab.low _ (ad _ hm);have:=ab.lt _ (ad _ hm);omega
  refine Ac 1 Z<|Ab _ [0,0] Z<|AQ ((k+1:Nat):Int) Z Z (Be oM sD) Aa<|Ac 1 Z ?_
  exact⟨(k+1,cf,xs++[ca],cb,cc),_,rfl,zR,⟨b0,b1,sD,(by exact⟨_,_,by assumption⟩),(by rw[z4,zd,hxl]),(by exact C7.snoc hxs (by assumption)),oM,oM,(by exact Gn oM hrl (by assumption))⟩,zD⟩
 exact AE false Z Z (A6 b8) Aa<|Aj<|A0<|Ai Z<|A4<|Ay<|Ay<|At<|ZN [0,0] Z<|Ac 2 Z<|A1<|Af [6] Z vo Z ⟨vo,xs,s9,c9,rfl,aj,a0,a3.done hS,(by exact⟨a3.cap,zO,hxs⟩),oM,oM,(by rw[za oM]at hrl;exact hrl)⟩
theorem Sz (F d:Nat)(IH:∀d',d'<d→PV F d'):PA F d:=by
 intro w S g vp dp o s0 c0 p vl l vv env hS hgS hB0 hp ho hs0 hc0 hl henv hqenv hvp hF hwf hse hdp hll
 exact H9 w S F g vp dp o s0 c0 p d vl l vv env hS hgS hB0 hp ho hs0 hc0 hl henv hqenv hvp hF hwf hse hdp hll IH
theorem JJ {p:Prop}(h:p:=by first|exact DD oM|exact CG oM oM|exact Ew hc00 hs1 oM|exact Ey hc00 hs1 oM|exact Ez hc00 hs1 oM oM ‹AM (go c0 (CZ _ _ (ex.kids.getD 0 _) _ _)) _ _ _› oM (by assumption)|exact EA hc00 hs1 oM oM ‹AM (go c0 (CZ _ _ (ex.kids.getD 0 _) _ _)) _ _ _› oM (by assumption)|exact EB hc00 hs1 oM oM ‹AM (go c0 (CZ _ _ (ex.kids.getD 0 _) _ _)) _ _ _› (by assumption)|exact D8 hc00 hs1 hkg.1 hkg.2.1 hkg.2.2.1 hkg.2.2.2 hKr oM|exact DZ hc00 hs1 oM oM hKr oM (by assumption)|exact E0 hc00 hs1 oM oM hKr oM (E1 hrl9 oM oM)|exact Bg hc00 hs1 hkg.1 hkg.2.1 hkg.2.2.1 hkg.2.2.2 oM oM hKr oM (by rw[show c66=0 from by omega];exact FZ oM)|exact Bg hc00 hs1 hkg.1 hkg.2.1 hkg.2.2.1 hkg.2.2.2 oM oM hKr oM (by rw[show c66=0 from by omega];exact G0 oM)|exact Bg hc00 hs1 hkg.1 hkg.2.1 hkg.2.2.1 hkg.2.2.2 oM oM hKr oM (by rw[show c66=0 from by omega];exact G3 oM)|exact Bg hc00 hs1 hkg.1 hkg.2.1 hkg.2.2.1 hkg.2.2.2 oM oM hKr oM (by rw[show c66=0 from by omega];exact G4 oM)|exact Bg hc00 hs1 hkg.1 hkg.2.1 hkg.2.2.1 hkg.2.2.2 oM oM hKr oM (by rw[show c66=0 from by omega];exact G5 oM oM)|exact Bg hc00 hs1 hkg.1 hkg.2.1 hkg.2.2.1 hkg.2.2.2 oM oM hKr oM (EC oM oM)):p:=h
theorem OU {p:Prop}(h:p:=by first|exact DD oM|exact CG oM oM|exact Ew hc00 hs1 oM|exact Ey hc00 hs1 oM|exact Ez hc00 hs1 oM oM ‹AM (go c0 (CZ _ _ (ex.kids.getD 0 _) _ _)) _ _ _› oM (by assumption)|exact EA hc00 hs1 oM oM ‹AM (go c0 (CZ _ _ (ex.kids.getD 0 _) _ _)) _ _ _› oM (by assumption)|exact EB hc00 hs1 oM oM ‹AM (go c0 (CZ _ _ (ex.kids.getD 0 _) _ _)) _ _ _› (by assumption)|exact D8 hc00 hs1 hkg.1 hkg.2.1 hkg.2.2.1 hkg.2.2.2 hKr oM|exact DZ hc00 hs1 oM oM hKr oM (by assumption)|exact E0 hc00 hs1 oM oM hKr oM (E1 hrl9 oM oM)|exact Bg hc00 hs1 hkg.1 hkg.2.1 hkg.2.2.1 hkg.2.2.2 oM oM hKr oM (by rw[show c0=0 from by omega];exact FZ oM)|exact Bg hc00 hs1 hkg.1 hkg.2.1 hkg.2.2.1 hkg.2.2.2 oM oM hKr oM (by rw[show c0=0 from by omega];exact G0 oM)|exact Bg hc00 hs1 hkg.1 hkg.2.1 hkg.2.2.1 hkg.2.2.2 oM oM hKr oM (by rw[show c0=0 from by omega];exact G3 oM)|exact Bg hc00 hs1 hkg.1 hkg.2.1 hkg.2.2.1 hkg.2.2.2 oM oM hKr oM (by rw[show c0=0 from by omega];exact G4 oM)|exact Bg hc00 hs1 hkg.1 hkg.2.1 hkg.2.2.1 hkg.2.2.2 oM oM hKr oM (by rw[show c0=0 from by omega];exact G5 oM oM)|exact Bg hc00 hs1 hkg.1 hkg.2.1 hkg.2.2.1 hkg.2.2.2 oM oM hKr oM (EC oM oM)):p:=h
theorem SA {p:Prop}(h:p:=by first|exact DD oM|exact CG oM oM|exact Ew hc00 hs1 oM|exact Ey hc00 hs1 oM|exact Ez hc00 hs1 oM oM ‹AM (go c0 (CZ _ _ (ex.kids.getD 0 _) _ _)) _ _ _› oM (by assumption)|exact EA hc00 hs1 oM oM ‹AM (go c0 (CZ _ _ (ex.kids.getD 0 _) _ _)) _ _ _› oM (by assumption)|exact EB hc00 hs1 oM oM ‹AM (go c0 (CZ _ _ (ex.kids.getD 0 _) _ _)) _ _ _› (by assumption)|exact D8 hc00 hs1 hkg.1 hkg.2.1 hkg.2.2.1 hkg.2.2.2 hKr oM|exact DZ hc00 hs1 oM oM hKr oM (by assumption)|exact E0 hc00 hs1 oM oM hKr oM (E1 hrl9 oM oM)|exact Bg hc00 hs1 hkg.1 hkg.2.1 hkg.2.2.1 hkg.2.2.2 oM oM hKr oM (by rw[show c9=0 from by omega];exact FZ oM)|exact Bg hc00 hs1 hkg.1 hkg.2.1 hkg.2.2.1 hkg.2.2.2 oM oM hKr oM (by rw[show c9=0 from by omega];exact G0 oM)|exact Bg hc00 hs1 hkg.1 hkg.2.1 hkg.2.2.1 hkg.2.2.2 oM oM hKr oM (by rw[show c9=0 from by omega];exact G3 oM)|exact Bg hc00 hs1 hkg.1 hkg.2.1 hkg.2.2.1 hkg.2.2.2 oM oM hKr oM (by rw[show c9=0 from by omega];exact G4 oM)|exact Bg hc00 hs1 hkg.1 hkg.2.1 hkg.2.2.1 hkg.2.2.2 oM oM hKr oM (by rw[show c9=0 from by omega];exact G5 oM oM)|exact Bg hc00 hs1 hkg.1 hkg.2.1 hkg.2.2.1 hkg.2.2.2 oM oM hKr oM (EC oM oM)):p:=h
theorem Dm {p:Prop}(h:p:=by first|assumption|exact Fi (by decide)|exact Fi (CY.2 oM)|exact hse _ oM|exact hks _ oM|exact Gq hK0|exact KQ hK0|exact Hn hK0|exact KR hK0|exact Ho hK0):p:=h
theorem Nf {p:Prop}(h:p:=by have:=hK0.1;have:=hK1.1;omega):p:=h
theorem Lt {p:Prop}(h:p:=by have:=hK0.1;omega):p:=h
theorem Gx (w:World)(S:List Nat)(F:Nat)(g:Nat)(vp:Value)(dp o s0:Nat)(c0:Int)(p:List Fn)(dex:Nat)(ve:Value)(ex:Ex)(vv:Value)(env:List (Sr))(hS:∀b∈S,b<w.heap.size)(hgS:g∈S)(hB0:BX w.heap g [vp,zI (o:Int),zI (s0:Int),zI c0])(hp:RP S dp w.heap vp p)(ho:o≤12)(hs0:s0≤3000)(hc0:0≤c0∧c0≤9)(hex:RX S dex w.heap ve ex)(henv:RN S (B5 (B5 rI)) w.heap vv env)(hqenv:BV vv)(hvp:FY p)(hF:F≤p.length)(hwf:wf p (F:Int) ex (env.length:Int)=true)(hse:C7 (o+1) env)(hdp:env.length+ex.deep≤1000000)(IH1:∀F',F'<F→∀d,PV F' d)(IH2:∀d',d'<dex→PV F d') :
  Calls Tryz.prog 234 #[zP g,(.agg #[(zI ex.kind),(zI ex.num),(zI ex.pick),(zI ex.count),ve]),vv] w (fun e w'=>∃(v:Value) (x:Sr) (s1:Nat) (c1:Int),e=.returned v∧AA [g] w w'∧BX w'.heap g [vp,zI (o:Int),zI (s1:Int),zI c1]∧RN S (B5 rI) w'.heap v x∧D2 (o+1) x∧s1≤3000∧(0≤c1∧c1≤9)∧AM (go c0 (CZ (o+1) (Fb p (o+1) F) ex env s0)) x s1 c1):=by
 refine As [zP g,.agg #[zI ex.kind,zI ex.num,zI ex.pick,zI ex.count,ve],vv] 210 Tryz.func234 Z Z sM ?_
 have jm:AA [g] w w:=AA.refl [g] w
 have fa:=hp.lenle
 unfold maxLen at fa
 have fb:=hex.rn.lenle
 unfold maxLen at fb
 have fc:=henv.lenL
 unfold maxLen at fc
 have nc:=hB0.lt
 have hdk:=D7 ex
 refine ZN [3,0] Z ?_
 have mg:=hB0.lt
 refine Bj (cs:=#[zI ex.kind,zI ex.num,zI ex.pick,zI ex.count,ve]) Z Aa fun w1 gw lm gx=>?_
 have i3:=gw.size
 have dn:AA [g] w w1:=jm.ext gw
 have ab:=hB0.ext gw
 replace gx:BX w1.heap w.heap.size [zI ex.kind,zI ex.num,zI ex.pick,zI ex.count,ve]:=gx
 refine Ac 1 Z<|A0<|ZN [0,0,0,2,0] Z<|Ad 1 Z<|Bb Z Aa<|Ak (p:=zP g) 3 GT Z Z Aa<|Ae (p:=An (zP g) 3) (.inr Z) (zI c0) AC Z (ab.ldp (i:=3) sM) Aa ?_
 by_cases jn:c0≠((0:Nat):Int)
 ·refine AU true Z Z (A5 jn) Aa<|Aj<|Ah Z<|ZN [0,3,0] Z<|Ad 1 Z<|Am 252 [] [] [zP g,zI ((0:Nat):Int)] Z Z Ok Aa (BI _ S g vp dp (o) (s0) (c0) (p) _ (fun b hb=>(by have:=hS b hb;omega:b<w1.heap.size)) hgS ab (hp.chg (Al<|Ax dp)<|dn.sub<|B2 hgS) oM oM oM oM) ?_
  rintro e4 w4 ⟨dq,rfl,gy,dr⟩
  refine⟨_,rfl,gy,?_⟩
  have ln:=gy.size
  have lo:AA [g] w w4:=dn.ext gy
  have ds:=ab.ext gy
  refine Ac 1 Z<|A1<|Ao ?_
  exact Af [6] Z dq Z ⟨dq,HQ (o+1) ((0:Nat):Int),s0,c0,rfl,lo,ds,RN.of_fr1 dr fun b hb=>zH<|hS b hb,Dm,oM,oM,OU⟩
 refine AU false Z Z (A6 jn) Aa<|Aj<|Ai Z<|A2<|A0<|ZN [0,0,0,2,0] Z<|Ad 1 Z<|Bb Z Aa<|Ak (p:=zP g) 2 Kz Z Z Aa<|Ae (p:=An (zP g) 2) (.inr Z) (zI (s0:Int)) AC Z (ab.ldp (i:=2) sM) Aa ?_
 by_cases jo:(s0:Int)=((3000:Nat):Int)
 ·refine Ap true Z Z (A5 jo) Aa<|Aj<|Ah Z<|ZN [0,0,0,4] Z<|Ad 1 Z<|Bb Z Aa<|Ak (p:=zP g) 3 GT Z Z Aa (BH (k:=3) (w:=w1) I3 Z Z ⟨rfl,rfl⟩ ab sM Aa fun w6 i4 mh gz=>?_)
  replace gz:BX w6.heap g [vp,zI (o:Int),zI (s0:Int),zI ((7:Nat):Int)]:=gz
  have jp:AA [g] w w6:=dn.trans i4
  have lp:=i4.size
  have lq:=gx.chg i4 (zB ·)
  refine Aj<|ZN [0,3,0] Z<|Ad 1 Z<|Am 252 [] [] [zP g,zI ((0:Nat):Int)] Z Z Ok Aa (BI _ S g vp dp (o) (s0) ((7:Nat):Int) (p) _ (fun b hb=>(by have:=hS b hb;omega:b<w6.heap.size)) hgS gz (hp.chg (Al<|Ax dp)<|jp.sub<|B2 hgS) oM oM oM oM) ?_
  rintro e8 w8 ⟨dt,rfl,du,dv⟩
  refine⟨_,rfl,du,?_⟩
  have lr:=du.size
  have ls:AA [g] w w8:=jp.ext du
  have dw:=gz.ext du
  have jq:=lq.ext du
  refine Ac 1 Z<|A1<|Ao ?_
  exact Af [6] Z dt Z ⟨dt,HQ (o+1) ((0:Nat):Int),s0,((7:Nat):Int),rfl,ls,dw,RN.of_fr1 dv fun b hb=>zH<|hS b hb,Dm,oM,oM,(by first|exact DD oM|exact CG oM oM|exact Ew hc00 hs1 oM|exact Ey hc00 hs1 oM|exact Ez hc00 hs1 oM oM ‹AM (go c0<|CZ _ _ (ex.kids.getD 0 _) _ _) _ _ _› oM (by assumption)|exact EA hc00 hs1 oM oM ‹AM (go c0<|CZ _ _ (ex.kids.getD 0 _) _ _) _ _ _› oM (by assumption)|exact EB hc00 hs1 oM oM ‹AM (go c0<|CZ _ _ (ex.kids.getD 0 _) _ _) _ _ _› (by assumption)|exact D8 hc00 hs1 hkg.1 hkg.2.1 hkg.2.2.1 hkg.2.2.2 hKr oM|exact DZ hc00 hs1 oM oM hKr oM (by assumption)|exact E0 hc00 hs1 oM oM hKr oM (E1 hrl9 oM oM)|exact Bg hc00 hs1 hkg.1 hkg.2.1 hkg.2.2.1 hkg.2.2.2 oM oM hKr oM (by rw[show((7:Nat):Int)=0 from by omega];exact FZ oM)|exact Bg hc00 hs1 hkg.1 hkg.2.1 hkg.2.2.1 hkg.2.2.2 oM oM hKr oM (by rw[show((7:Nat):Int)=0 from by omega];exact G0 oM)|exact Bg hc00 hs1 hkg.1 hkg.2.1 hkg.2.2.1 hkg.2.2.2 oM oM hKr oM (by rw[show((7:Nat):Int)=0 from by omega];exact G3 oM)|exact Bg hc00 hs1 hkg.1 hkg.2.1 hkg.2.2.1 hkg.2.2.2 oM oM hKr oM (by rw[show((7:Nat):Int)=0 from by omega];exact G4 oM)|exact Bg hc00 hs1 hkg.1 hkg.2.1 hkg.2.2.1 hkg.2.2.2 oM oM hKr oM (by rw[show((7:Nat):Int)=0 from by omega];exact G5 oM oM)|exact Bg hc00 hs1 hkg.1 hkg.2.1 hkg.2.2.1 hkg.2.2.2 oM oM hKr oM (EC oM oM))⟩
 refine Ap false Z Z (A6 jo) Aa<|Aj<|Ai Z<|A2<|ZN [0,0,0,2,0,0,0,4] Z<|Ad 1 Z<|Bb Z Aa<|Ak (p:=zP g) 2 Kz Z Z Aa<|Ae (p:=An (zP g) 2) (.inr Z) (zI (s0:Int)) AC Z (ab.ldp (i:=2) sM) Aa<|AQ ((s0+1:Nat):Int) Z Z (Be oM oM) Aa<|Bb Z Aa<|Ak (p:=zP g) 2 Kz Z Z Aa (BH (k:=2) (w:=w1) I3 Z Z ⟨rfl,rfl⟩ ab sM Aa fun w9 i0 lu c2=>?_)
 replace c2:BX w9.heap g [vp,zI (o:Int),zI ((s0+1:Nat):Int),zI c0]:=c2
 have ae:AA [g] w w9:=dn.trans i0
 have i5:=i0.size
 have a9:=gx.chg i0 (zB ·)
 refine Aj<|A0<|ZN [0,2] Z ?_
 have hc00:c0=0:=by omega
 have hs1:s0+1≤3000:=by omega
 refine Ak (p:=zP w.heap.size) 0 BC Z Z Aa<|Ae (p:=An (zP w.heap.size) 0) (.inr Z) (zI ex.kind) AC Z (a9.ldp (i:=0) sM) Aa<|Aj<|A3<|ZN [0,0] Z ?_
 by_cases dx:ex.kind=((1:Nat):Int)
 ·refine Ap true Z Z (A5 dx) Aa<|Ac 1 Z<|Ah Z<|ZN [0,0,2,3,0] Z ?_
  have hwk:=KN hwf oM
  refine Ad 1 Z<|Ak (p:=zP w.heap.size) 1 Bw Z Z Aa<|Ae (p:=An (zP w.heap.size) 1) (.inr Z) (zI ex.num) AC Z (a9.ldp (i:=1) sM) Aa<|Am 252 [] [] [zP g,zI ex.num] Z Z Ok Aa (BI _ S g vp dp (o) (s0+1) (c0) (p) _ (fun b hb=>(by have:=hS b hb;omega:b<w9.heap.size)) hgS c2 (hp.chg (Al<|Ax dp)<|ae.sub<|B2 hgS) oM oM oM hex.rng.num) ?_
  rintro nd fz ⟨c3,rfl,ax,cm⟩
  refine⟨_,rfl,ax,?_⟩
  have jr:=ax.size
  have i6:AA [g] w fz:=ae.ext ax
  have cn:=c2.ext ax
  have i1:=a9.ext ax
  refine Ac 1 Z<|A1<|AH<|Ao ?_
  exact Af [6] Z c3 Z ⟨c3,HQ (o+1) ex.num,s0+1,c0,rfl,i6,cn,RN.of_fr1 cm fun b hb=>zH<|hS b hb,Dm,oM,oM,OU⟩
 refine Ap false Z Z (A6 dx) Aa<|Ac 1 Z<|Ai Z<|ZN [0,0] Z ?_
 by_cases dy:ex.kind=((2:Nat):Int)
 ·refine Ap true Z Z (A5 dy) Aa<|Ac 1 Z<|Ah Z<|ZN [0,0,2,0,2,0] Z ?_
  have hwk:=KO hwf oM
  refine Ad 1 Z<|Ak (p:=zP w.heap.size) 1 Bw Z Z Aa<|Ae (p:=An (zP w.heap.size) 1) (.inr Z) (zI ex.num) AC Z (a9.ldp (i:=1) sM) Aa<|Au (v:=vv) ((ex.num).toNat) Bs AV Z Z henv.slL oM sD Aa ?_
  obtain⟨co,i7,dz⟩:=RN.getL (w:=w) g1 [] (k:=(ex.num).toNat) henv sD
  have e0:=dz.lenL
  unfold maxLen at e0
  refine Ae (p:=Aw vv ((ex.num).toNat) 1) (.inr Z) co AZ Z (i7 _<|ae.sub<|B2 hgS) Aa<|Ac 1 Z<|A1<|AH<|Ao ?_
  exact Af [6] Z co Z ⟨co,env.getD ((ex.num).toNat) [],s0+1,c0,rfl,ae,c2,dz.chg g1<|ae.sub<|B2 hgS,Dm,oM,oM,OU⟩
 refine Ap false Z Z (A6 dy) Aa<|Ac 1 Z<|Ai Z<|ZN [0,0] Z ?_
 by_cases e1:ex.kind=((8:Nat):Int)
 ·refine Ap true Z Z (A5 e1) Aa<|Ac 1 Z<|Ah Z<|A0<|ZN [0,0,2,0,2,0,4,0,2,0] Z ?_
  have hwk:=NU hwf oM
  refine Ad 1 Z<|Ak (p:=zP w.heap.size) 4 B8 Z Z Aa<|Ae (p:=An (zP w.heap.size) 4) (.inr Z) ve Ba Z (a9.ldp (i:=4) sM) Aa<|Au (v:=ve) 0 CB Bf Z Z hex.rn.isSl Z sD Aa ?_
  obtain⟨cs16,i8,i9⟩:=hex.rn.get (Aq dex) Ex.zero (k:=0) sD
  obtain⟨dd16,cp,lv,rfl,cq⟩:=RX.of i8
  have e2:=cq.rn.lenle
  unfold maxLen at e2
  refine AJ (p:=Aw ve 0 5) (.inr Z) [zI<|(ex.kids.getD 0 Ex.zero).kind,zI<|(ex.kids.getD 0 Ex.zero).num,zI<|(ex.kids.getD 0 Ex.zero).pick,zI<|(ex.kids.getD 0 Ex.zero).count,cp] Bx Z (fun f4 cr=>i9 f4<|(ae.sub<|B2 hgS).ext cr) Z Aa<|Ad 1 Z ?_
  refine AI 234 [] [] [zP g,.agg #[zI<|(ex.kids.getD 0 Ex.zero).kind,zI<|(ex.kids.getD 0 Ex.zero).num,zI<|(ex.kids.getD 0 Ex.zero).pick,zI<|(ex.kids.getD 0 Ex.zero).count,cp],vv] Z Z Lj Aa (IH2 dd16 oM _ S g vp dp (o) (s0+1) (c0) (p) cp (ex.kids.getD 0 Ex.zero) vv (env) (fun b hb=>(by have:=hS b hb;omega:b<w9.heap.size)) hgS c2 (hp.chg (Al<|Ax dp)<|ae.sub<|B2 hgS) oM oM oM ⟨cq.rng,cq.rn.chg (Al<|Aq dd16)<|ae.sub<|B2 hgS⟩ (henv.chg g2<|ae.sub<|B2 hgS) hqenv hvp oM (by exact BT hwf oM oM) hse (zH<|CH (l:=ex.kids) (k:=0) oM)) ?_
  rintro nf fd ⟨fo,fp,fq,fr,rfl,ct,e3,bn,e5,js,jt,ju⟩
  refine⟨_,rfl,?_⟩
  have jv:=ct.size
  have af:AA [g] w fd:=ae.trans ct
  have bo:=a9.chg ct (zB ·)
  have jw:=e5.1
  refine Au (v:=fo) 0 Bl BD Z Z bn.slL Z sD Aa ?_
  have ia:=RN.getI (w:=fd) (k:=0) bn sD
  refine Ae (p:=Aw fo 0 1) (.inr Z) (zI<|fp.getD 0 0) AC Z (ia.1 _<|AA.refl _ _) Aa ?_
  by_cases e6:fp.getD 0 0=((0:Nat):Int)
  ·refine Ap true Z Z (A5 e6) Aa<|Aj<|Ah Z<|ZN [0,0,2,0,2,0,4,0] Z<|Ad 1 Z<|Ak (p:=zP w.heap.size) 4 B8 Z Z Aa<|Ae (p:=An (zP w.heap.size) 4) (.inr Z) ve Ba Z (bo.ldp (i:=4) sM) Aa<|Au (v:=ve) 1 CB Bf Z Z hex.rn.isSl Z sD Aa ?_
   obtain⟨cs25,ib,ic⟩:=hex.rn.get (Aq dex) Ex.zero (k:=1) sD
   obtain⟨dd25,cu,lw,rfl,cv⟩:=RX.of ib
   have e7:=cv.rn.lenle
   unfold maxLen at e7
   refine AJ (p:=Aw ve 1 5) (.inr Z) [zI<|(ex.kids.getD 1 Ex.zero).kind,zI<|(ex.kids.getD 1 Ex.zero).num,zI<|(ex.kids.getD 1 Ex.zero).pick,zI<|(ex.kids.getD 1 Ex.zero).count,cu] Bx Z (fun f4 cr=>ic f4<|(af.sub<|B2 hgS).ext cr) Z Aa<|Ad 1 Z ?_
   refine AI 234 [] [] [zP g,.agg #[zI<|(ex.kids.getD 1 Ex.zero).kind,zI<|(ex.kids.getD 1 Ex.zero).num,zI<|(ex.kids.getD 1 Ex.zero).pick,zI<|(ex.kids.getD 1 Ex.zero).count,cu],vv] Z Z Lj Aa (IH2 dd25 oM _ S g vp dp (o) (fq) (fr) (p) cu (ex.kids.getD 1 Ex.zero) vv (env) (fun b hb=>(by have:=hS b hb;omega:b<fd.heap.size)) hgS e3 (hp.chg (Al<|Ax dp)<|af.sub<|B2 hgS) oM oM oM ⟨cv.rng,cv.rn.chg (Al<|Aq dd25)<|af.sub<|B2 hgS⟩ (henv.chg g2<|af.sub<|B2 hgS) hqenv hvp oM (by exact BT hwf oM oM) hse (zH<|CH (l:=ex.kids) (k:=1) oM)) ?_
   rintro ng mj ⟨fs,ml,mm,f6,rfl,bp,id,ie,e9,jx,jy,jz⟩
   refine⟨_,rfl,?_⟩
   have k0:=bp.size
   have ig:AA [g] w mj:=af.trans bp
   have lx:=bo.chg bp (zB ·)
   have ly:=bn.run g1 hgS bp
   have k1:=e9.1
   refine Ac 1 Z<|A1<|Ao<|AH<|Ao ?_
   exact Af [6] Z fs Z ⟨fs,ml,mm,f6,rfl,ig,id,ie,Dm,oM,oM,(by first|exact DD oM|exact CG oM oM|exact Ew hc00 hs1 oM|exact Ey hc00 hs1 oM|exact Ez hc00 hs1 oM oM ‹AM (go c0<|CZ _ _ (ex.kids.getD 0 _) _ _) _ _ _› oM (by assumption)|exact EA hc00 hs1 oM oM ‹AM (go c0<|CZ _ _ (ex.kids.getD 0 _) _ _) _ _ _› oM (by assumption)|exact EB hc00 hs1 oM oM ‹AM (go c0<|CZ _ _ (ex.kids.getD 0 _) _ _) _ _ _› (by assumption)|exact D8 hc00 hs1 hkg.1 hkg.2.1 hkg.2.2.1 hkg.2.2.2 hKr oM|exact DZ hc00 hs1 oM oM hKr oM (by assumption)|exact E0 hc00 hs1 oM oM hKr oM (E1 hrl9 oM oM)|exact Bg hc00 hs1 hkg.1 hkg.2.1 hkg.2.2.1 hkg.2.2.2 oM oM hKr oM (by rw[show f6=0 from by omega];exact FZ oM)|exact Bg hc00 hs1 hkg.1 hkg.2.1 hkg.2.2.1 hkg.2.2.2 oM oM hKr oM (by rw[show f6=0 from by omega];exact G0 oM)|exact Bg hc00 hs1 hkg.1 hkg.2.1 hkg.2.2.1 hkg.2.2.2 oM oM hKr oM (by rw[show f6=0 from by omega];exact G3 oM)|exact Bg hc00 hs1 hkg.1 hkg.2.1 hkg.2.2.1 hkg.2.2.2 oM oM hKr oM (by rw[show f6=0 from by omega];exact G4 oM)|exact Bg hc00 hs1 hkg.1 hkg.2.1 hkg.2.2.1 hkg.2.2.2 oM oM hKr oM (by rw[show f6=0 from by omega];exact G5 oM oM)|exact Bg hc00 hs1 hkg.1 hkg.2.1 hkg.2.2.1 hkg.2.2.2 oM oM hKr oM (EC oM oM))⟩
  refine Ap false Z Z (A6 e6) Aa<|Aj<|Ai Z<|A2<|ZN [0,0,2,0,2,0,4,0] Z<|Ad 1 Z<|Ak (p:=zP w.heap.size) 4 B8 Z Z Aa<|Ae (p:=An (zP w.heap.size) 4) (.inr Z) ve Ba Z (bo.ldp (i:=4) sM) Aa<|Au (v:=ve) 2 CB Bf Z Z hex.rn.isSl Z sD Aa ?_
  obtain⟨cs34,ih,ii⟩:=hex.rn.get (Aq dex) Ex.zero (k:=2) sD
  obtain⟨dd34,cw,lz,rfl,cx⟩:=RX.of ih
  have ea:=cx.rn.lenle
  unfold maxLen at ea
  refine AJ (p:=Aw ve 2 5) (.inr Z) [zI<|(ex.kids.getD 2 Ex.zero).kind,zI<|(ex.kids.getD 2 Ex.zero).num,zI<|(ex.kids.getD 2 Ex.zero).pick,zI<|(ex.kids.getD 2 Ex.zero).count,cw] Bx Z (fun f4 cr=>ii f4<|(af.sub<|B2 hgS).ext cr) Z Aa<|Ad 1 Z ?_
  refine AI 234 [] [] [zP g,.agg #[zI<|(ex.kids.getD 2 Ex.zero).kind,zI<|(ex.kids.getD 2 Ex.zero).num,zI<|(ex.kids.getD 2 Ex.zero).pick,zI<|(ex.kids.getD 2 Ex.zero).count,cw],vv] Z Z Lj Aa (IH2 dd34 oM _ S g vp dp (o) (fq) (fr) (p) cw (ex.kids.getD 2 Ex.zero) vv (env) (fun b hb=>(by have:=hS b hb;omega:b<fd.heap.size)) hgS e3 (hp.chg (Al<|Ax dp)<|af.sub<|B2 hgS) oM oM oM ⟨cx.rng,cx.rn.chg (Al<|Aq dd34)<|af.sub<|B2 hgS⟩ (henv.chg g2<|af.sub<|B2 hgS) hqenv hvp oM (by exact BT hwf oM oM) hse (zH<|CH (l:=ex.kids) (k:=2) oM)) ?_
  rintro nh mn ⟨ft,mo,mp,f7,rfl,bq,ij,ik,eb,k2,k3,k4⟩
  refine⟨_,rfl,?_⟩
  have k5:=bq.size
  have il:AA [g] w mn:=af.trans bq
  have m0:=bo.chg bq (zB ·)
  have m1:=bn.run g1 hgS bq
  have k6:=eb.1
  refine Ac 1 Z<|A1<|AH<|Ao ?_
  exact Af [6] Z ft Z ⟨ft,mo,mp,f7,rfl,il,ij,ik,Dm,oM,oM,(by first|exact DD oM|exact CG oM oM|exact Ew hc00 hs1 oM|exact Ey hc00 hs1 oM|exact Ez hc00 hs1 oM oM ‹AM (go c0<|CZ _ _ (ex.kids.getD 0 _) _ _) _ _ _› oM (by assumption)|exact EA hc00 hs1 oM oM ‹AM (go c0<|CZ _ _ (ex.kids.getD 0 _) _ _) _ _ _› oM (by assumption)|exact EB hc00 hs1 oM oM ‹AM (go c0<|CZ _ _ (ex.kids.getD 0 _) _ _) _ _ _› (by assumption)|exact D8 hc00 hs1 hkg.1 hkg.2.1 hkg.2.2.1 hkg.2.2.2 hKr oM|exact DZ hc00 hs1 oM oM hKr oM (by assumption)|exact E0 hc00 hs1 oM oM hKr oM (E1 hrl9 oM oM)|exact Bg hc00 hs1 hkg.1 hkg.2.1 hkg.2.2.1 hkg.2.2.2 oM oM hKr oM (by rw[show f7=0 from by omega];exact FZ oM)|exact Bg hc00 hs1 hkg.1 hkg.2.1 hkg.2.2.1 hkg.2.2.2 oM oM hKr oM (by rw[show f7=0 from by omega];exact G0 oM)|exact Bg hc00 hs1 hkg.1 hkg.2.1 hkg.2.2.1 hkg.2.2.2 oM oM hKr oM (by rw[show f7=0 from by omega];exact G3 oM)|exact Bg hc00 hs1 hkg.1 hkg.2.1 hkg.2.2.1 hkg.2.2.2 oM oM hKr oM (by rw[show f7=0 from by omega];exact G4 oM)|exact Bg hc00 hs1 hkg.1 hkg.2.1 hkg.2.2.1 hkg.2.2.2 oM oM hKr oM (by rw[show f7=0 from by omega];exact G5 oM oM)|exact Bg hc00 hs1 hkg.1 hkg.2.1 hkg.2.2.1 hkg.2.2.2 oM oM hKr oM (EC oM oM))⟩
 refine Ap false Z Z (A6 e1) Aa<|Ac 1 Z<|Ai Z<|ZN [0,0] Z ?_
 by_cases ec:ex.kind=((9:Nat):Int)
 ·refine Ap true Z Z (A5 ec) Aa<|Ac 1 Z<|Ah Z<|A0 ?_
  letI:JR:=X7 [g]
  refine Jx.AO _ [0,0,1,0,1,0,0,0,0,1,0,1,0,3,3,3,3,0] mixed (by kernel_rfl) ?_
  have hwk:=KP hwf oM
  refine Jx.V6 (zP g) Z Aa<|Jx.Ak (p:=zP w.heap.size) 4 B8 Z Z Aa<|Jx.YX (p:=An (zP w.heap.size) 4) ve Ba Z (fun wj hj=>(BX.chg (w:=w9.drew) (F:=[g]) a9 hj (zB ·)).ldp (i:=4) sM) Aa<|Jx.Au (v:=ve) 1 CB Bf Z Z hex.rn.isSl Z sD Aa ?_
  obtain⟨cs44,im,io⟩:=hex.rn.get (Aq dex) Ex.zero (k:=1) sD
  obtain⟨dd44,cy,m2,rfl,cz⟩:=RX.of im
  have ed:=cz.rn.lenle
  unfold maxLen at ed
  refine Jx.X8 (p:=Aw ve 1 5) [zI<|(ex.kids.getD 1 Ex.zero).kind,zI<|(ex.kids.getD 1 Ex.zero).num,zI<|(ex.kids.getD 1 Ex.zero).pick,zI<|(ex.kids.getD 1 Ex.zero).count,cy] Bx Z (fun wj hj=>io wj<|AA.trans (ae.drew.sub<|B2 hgS)<|AA.sub (show AA [g] w9.drew wj from hj)<|B2 hgS) Z Aa<|Jx.V6 vv Z Aa<|Jx.AB 253 [] [] [vv] Z Z Yu Aa (DR vv) (fun wq=>Eb wq vv _ henv.slL hqenv)<|Jx.V6 (zP g) Z Aa<|Jx.Ak (p:=zP w.heap.size) 4 B8 Z Z Aa ?_
  refine Jx.YX (p:=An (zP w.heap.size) 4) ve Ba Z (fun wj hj=>(BX.chg (w:=w9.drew) (F:=[g]) a9 hj (zB ·)).ldp (i:=4) sM) Aa<|Jx.Au (v:=ve) 0 CB Bf Z Z hex.rn.isSl Z sD Aa ?_
  obtain⟨cs45,ip,iq⟩:=hex.rn.get (Aq dex) Ex.zero (k:=0) sD
  obtain⟨dd45,d0,m3,rfl,d1⟩:=RX.of ip
  have ee:=d1.rn.lenle
  unfold maxLen at ee
  refine Jx.X8 (p:=Aw ve 0 5) [zI<|(ex.kids.getD 0 Ex.zero).kind,zI<|(ex.kids.getD 0 Ex.zero).num,zI<|(ex.kids.getD 0 Ex.zero).pick,zI<|(ex.kids.getD 0 Ex.zero).count,d0] Bx Z (fun wj hj=>iq wj<|AA.trans (ae.drew.sub<|B2 hgS)<|AA.sub (show AA [g] w9.drew wj from hj)<|B2 hgS) Z Aa<|Jx.V6 vv Z Aa ?_
  refine Jx.Am 234 [] [] [zP g,.agg #[zI<|(ex.kids.getD 0 Ex.zero).kind,zI<|(ex.kids.getD 0 Ex.zero).num,zI<|(ex.kids.getD 0 Ex.zero).pick,zI<|(ex.kids.getD 0 Ex.zero).count,d0],vv] Z Z Lj Aa (IH2 dd45 oM _ S g vp dp (o) (s0+1) (c0) (p) d0 (ex.kids.getD 0 Ex.zero) vv (env) (fun b hb=>(by have:=hS b hb;omega:b<w9.heap.size)) hgS c2 (hp.chg (Al<|Ax dp)<|ae.drew.sub<|B2 hgS) oM oM oM ⟨d1.rng,d1.rn.chg (Al<|Aq dd45)<|ae.drew.sub<|B2 hgS⟩ (henv.chg g2<|ae.drew.sub<|B2 hgS) hqenv hvp oM (by exact BT hwf oM oM) hse (zH<|CH (l:=ex.kids) (k:=0) oM)) ?_
  rintro ni fe ⟨fu,mq,mr,ms,rfl,ap,ir,ef,eg,k7,k8,k9⟩
  refine⟨_,rfl,ap,?_⟩
  replace ap:=ap.of_drew
  have ka:=ap.size
  have is:AA [g] w fe:=ae.trans ap
  have it:=a9.chg ap (zB ·)
  have kb:=eg.1
  refine Jx.By (u:=fu) (B:=fe.heap.size) Bv Bs AV Z Z (LN fe.heap.size fe.heap.size _<|ef.one1 g1) (A7 _) Aa fun mt fv ay m4 iu=>?_
  have kc:=ay.size
  have eh:AA [g] w fv:=is.ext ay
  have br:=ir.ext ay
  have bs:=it.ext ay
  have ei:=ef.ext g1 ay
  refine Jx.Vd (v:=vv) (a:=mt) (u:=fu) Bs AV Z Z Z (henv.chg g2<|eh.sub<|B2 hgS) iu ei (fun b hb=>(by have:=hS b hb;omega:b<fv.heap.size)) sD (by unfold maxLen;first|omega|assumption|(simp;done)|(simp;omega)) Aa fun fw fx az ej ek=>?_
  have kd:=az.size
  have d2:AA [g] w fx:=eh.ext az
  have bt:=br.ext az
  have bu:=bs.ext az
  have iv:=ei.ext g1 az
  refine Jx.Am 234 [] [] [zP g,.agg #[zI<|(ex.kids.getD 1 Ex.zero).kind,zI<|(ex.kids.getD 1 Ex.zero).num,zI<|(ex.kids.getD 1 Ex.zero).pick,zI<|(ex.kids.getD 1 Ex.zero).count,cy],fw] Z Z Lj Aa (IH2 dd44 oM _ S g vp dp (o) (mr) (ms) (p) cy (ex.kids.getD 1 Ex.zero) fw (env++[mq]) (fun b hb=>(by have:=hS b hb;omega:b<fx.heap.size)) hgS bt (hp.chg (Al<|Ax dp)<|d2.sub<|B2 hgS) oM oM oM ⟨cz.rng,cz.rn.chg (Al<|Aq dd44)<|d2.sub<|B2 hgS⟩ ej ek hvp oM (by have h9:=Hl hwf oM oM;rw[z4,zd];exact h9) (by exact hse.snoc (by assumption)) (by have:=CH (l:=ex.kids) (k:=1) oM;rw[z4,zd];omega)) ?_
  rintro nj mu ⟨fg,mv,mw,f8,rfl,aq,iw,ix,el,ke,kf,kg⟩
  refine⟨_,rfl,aq,?_⟩
  have kh:=aq.size
  have iy:AA [g] w mu:=d2.trans aq
  have m5:=bu.chg aq (zB ·)
  have m6:=iv.run g1 hgS aq
  have m7:=ej.run g2 hgS aq
  have ki:=el.1
  refine Jx.QC fg Z Aa<|Jx.Aj<|A1<|AH<|Ao ?_
  exact Af [6] Z fg Z ⟨fg,mv,mw,f8,rfl,iy,iw,ix,Dm,oM,oM,(by first|exact DD oM|exact CG oM oM|exact Ew hc00 hs1 oM|exact Ey hc00 hs1 oM|exact Ez hc00 hs1 oM oM ‹AM (go c0<|CZ _ _ (ex.kids.getD 0 _) _ _) _ _ _› oM (by assumption)|exact EA hc00 hs1 oM oM ‹AM (go c0<|CZ _ _ (ex.kids.getD 0 _) _ _) _ _ _› oM (by assumption)|exact EB hc00 hs1 oM oM ‹AM (go c0<|CZ _ _ (ex.kids.getD 0 _) _ _) _ _ _› (by assumption)|exact D8 hc00 hs1 hkg.1 hkg.2.1 hkg.2.2.1 hkg.2.2.2 hKr oM|exact DZ hc00 hs1 oM oM hKr oM (by assumption)|exact E0 hc00 hs1 oM oM hKr oM (E1 hrl9 oM oM)|exact Bg hc00 hs1 hkg.1 hkg.2.1 hkg.2.2.1 hkg.2.2.2 oM oM hKr oM (by rw[show f8=0 from by omega];exact FZ oM)|exact Bg hc00 hs1 hkg.1 hkg.2.1 hkg.2.2.1 hkg.2.2.2 oM oM hKr oM (by rw[show f8=0 from by omega];exact G0 oM)|exact Bg hc00 hs1 hkg.1 hkg.2.1 hkg.2.2.1 hkg.2.2.2 oM oM hKr oM (by rw[show f8=0 from by omega];exact G3 oM)|exact Bg hc00 hs1 hkg.1 hkg.2.1 hkg.2.2.1 hkg.2.2.2 oM oM hKr oM (by rw[show f8=0 from by omega];exact G4 oM)|exact Bg hc00 hs1 hkg.1 hkg.2.1 hkg.2.2.1 hkg.2.2.2 oM oM hKr oM (by rw[show f8=0 from by omega];exact G5 oM oM)|exact Bg hc00 hs1 hkg.1 hkg.2.1 hkg.2.2.1 hkg.2.2.2 oM oM hKr oM (EC oM oM))⟩
 refine Ap false Z Z (A6 ec) Aa<|Ac 1 Z<|Ai Z<|A2<|ZN [0,0,2,0,4,0] Z ?_
 have hkg:ex.kind≠1∧ex.kind≠2∧ex.kind≠8∧ex.kind≠9:=by omega
 have mi:=MN hwf hvp hF
 refine Ad 1 Z<|Ak (p:=zP w.heap.size) 4 B8 Z Z Aa<|Ae (p:=An (zP w.heap.size) 4) (.inr Z) ve Ba Z (a9.ldp (i:=4) sM) Aa<|Ad 1 Z ?_
 refine AI 201 [] [] [zP g,ve,vv] Z Z Sl Aa (Sz F dex (fun d9 h9=>IH2 d9 oM) _ S g vp dp (o) (s0+1) (c0) (p) ve (ex.kids) vv (env) (fun b hb=>(by have:=hS b hb;omega:b<w9.heap.size)) hgS c2 (hp.chg (Al<|Ax dp)<|ae.sub<|B2 hgS) oM oM oM (hex.rn.chg (Al<|Aq dex)<|ae.sub<|B2 hgS) (henv.chg g2<|ae.sub<|B2 hgS) hqenv hvp oM (by intro k hk;exact BT hwf hk oM) hse (by intro k hk;have:=CH (l:=ex.kids) (k:=k) hk;omega) oM) ?_
 rintro nk f1 ⟨f0,f2,f3,c66,rfl,bv,aa,a0,ak,kj,kk,em⟩
 refine⟨_,rfl,?_⟩
 have en:=bv.size
 have a2:AA [g] w f1:=ae.trans bv
 have a6:=a9.chg bv (zB ·)
 have kl:=ak.2.1
 have km:=ak.2.2
 have kn:=ak.1
 have hK:=ak.2.2
 have hKr:=em
 refine Ac 1 Z<|A0<|ZN [0,0,0,2,0] Z<|Ad 1 Z<|Bb Z Aa<|Ak (p:=zP g) 3 GT Z Z Aa<|Ae (p:=An (zP g) 3) (.inr Z) (zI c66) AC Z (aa.ldp (i:=3) sM) Aa ?_
 by_cases eo:c66≠((0:Nat):Int)
 ·refine AU true Z Z (A5 eo) Aa<|Aj<|Ah Z<|ZN [0,3,0] Z<|Ad 1 Z<|Am 252 [] [] [zP g,zI ((0:Nat):Int)] Z Z Ok Aa (BI _ S g vp dp (o) (f3) (c66) (p) _ (fun b hb=>(by have:=hS b hb;omega:b<f1.heap.size)) hgS aa (hp.chg (Al<|Ax dp)<|a2.sub<|B2 hgS) oM oM oM oM) ?_
  rintro nl mx ⟨c4,rfl,ar,d3⟩
  refine⟨_,rfl,ar,?_⟩
  have ko:=ar.size
  have iz:AA [g] w mx:=a2.ext ar
  have bw:=aa.ext ar
  have i2:=a6.ext ar
  have m8:=a0.ext g2 ar
  refine Ac 1 Z<|A1<|Ao ?_
  exact Af [6] Z c4 Z ⟨c4,HQ (o+1) ((0:Nat):Int),f3,c66,rfl,iz,bw,RN.of_fr1 d3 fun b hb=>zH<|hS b hb,Dm,oM,oM,JJ⟩
 refine AU false Z Z (A6 eo) Aa<|Aj<|Ai Z<|A2<|A0<|ZN [0,2] Z<|Ak (p:=zP w.heap.size) 0 BC Z Z Aa<|Ae (p:=An (zP w.heap.size) 0) (.inr Z) (zI ex.kind) AC Z (a6.ldp (i:=0) sM) Aa<|Aj<|A3<|ZN [0,0] Z ?_
 by_cases ep:ex.kind=((10:Nat):Int)
 ·refine Ap true Z Z (A5 ep) Aa<|Ac 1 Z<|Ah Z<|A0<|AO _ [0,0,0,0,0,1,0,1,0,0,1,0,1,0,1,0,4,0] mixed (by kernel_rfl) ?_
  have hwk:=Fj hwf oM
  refine Ad 2 Z ?_
  have hvo:=hvp.outs (ex.num).toNat oM
  have hvd:=hvp.deep (ex.num).toNat oM (ex.pick).toNat oM
  refine Bb Z Aa<|Ak (p:=zP g) 0 Q4 Z Z Aa<|Ak (p:=An (zP g) 0) (b:=g) (o:=0) 0 BA Z Z Aa<|Ae (p:=An (An (zP g) 0) 0) (.inl Z) vp C5 Z (aa.ldp (i:=0) sM) Aa<|Ak (p:=zP w.heap.size) 1 Bw Z Z Aa<|Ae (p:=An (zP w.heap.size) 1) (.inl Z) (zI ex.num) AC Z (a6.ldp (i:=1) sM) Aa ?_
  refine Au (v:=vp) ((ex.num).toNat) Fq C9 Z Z hp.isSl oM sD Aa ?_
  obtain⟨cs75,j0,eq⟩:=hp.get (Ax dp) Fn.zero (k:=(ex.num).toNat) sD
  obtain⟨d4,rfl,d5⟩:=RF.of j0
  have er:=d5.rn.lenle
  unfold maxLen at er
  refine AD (p:=Aw vp ((ex.num).toNat) 3) 2 BQ Z (eq _<|a2.drew.sub<|B2 hgS) Aa<|Ae (p:=An (Aw vp ((ex.num).toNat) 3) 2) (.inl Z) d4 Ba Z ((eq _<|a2.drew.sub<|B2 hgS).ld (i:=2) (by simp[DQ,DU])) Aa<|Ak (p:=zP w.heap.size) 2 Cn Z Z Aa<|Ae (p:=An (zP w.heap.size) 2) (.inl Z) (zI ex.pick) AC Z (a6.ldp (i:=2) sM) Aa ?_
  refine Au (v:=d4) ((ex.pick).toNat) CB Bf Z Z d5.rn.isSl oM sD Aa ?_
  obtain⟨cs76,j1,j2⟩:=d5.rn.get (Aq dp) Ex.zero (k:=(ex.pick).toNat) sD
  obtain⟨dd76,d6,m9,rfl,d7⟩:=RX.of j1
  have es:=d7.rn.lenle
  unfold maxLen at es
  refine AJ (p:=Aw d4 ((ex.pick).toNat) 5) (.inl Z) [zI<|(((p.getD ((ex.num).toNat) Fn.zero).outs).getD ((ex.pick).toNat) Ex.zero).kind,zI<|(((p.getD ((ex.num).toNat) Fn.zero).outs).getD ((ex.pick).toNat) Ex.zero).num,zI<|(((p.getD ((ex.num).toNat) Fn.zero).outs).getD ((ex.pick).toNat) Ex.zero).pick,zI<|(((p.getD ((ex.num).toNat) Fn.zero).outs).getD ((ex.pick).toNat) Ex.zero).count,d6] Bx Z (fun f4 cr=>j2 f4<|(a2.drew.sub<|B2 hgS).ext cr) Z Aa<|Ad 1 Z ?_
  refine AI 234 [] [] [zP g,.agg #[zI<|(((p.getD ((ex.num).toNat) Fn.zero).outs).getD ((ex.pick).toNat) Ex.zero).kind,zI<|(((p.getD ((ex.num).toNat) Fn.zero).outs).getD ((ex.pick).toNat) Ex.zero).num,zI<|(((p.getD ((ex.num).toNat) Fn.zero).outs).getD ((ex.pick).toNat) Ex.zero).pick,zI<|(((p.getD ((ex.num).toNat) Fn.zero).outs).getD ((ex.pick).toNat) Ex.zero).count,d6],f0] Z Z Lj Aa (IH1 (ex.num).toNat oM dd76 _ S g vp dp (o) (f3) (c66) (p) d6 (((p.getD ((ex.num).toNat) Fn.zero).outs).getD ((ex.pick).toNat) Ex.zero) f0 (f2) (fun b hb=>(by have:=hS b hb;omega:b<f1.heap.size)) hgS aa (hp.chg (Al<|Ax dp)<|a2.drew.sub<|B2 hgS) oM oM oM ⟨d7.rng,d7.rn.chg (Al<|Aq dd76)<|a2.drew.sub<|B2 hgS⟩ a0 ak.1 hvp oM (by have h9:=hvp.wf (ex.num).toNat oM (ex.pick).toNat oM;rw[show(f2.length:Int)=(p.getD (ex.num).toNat Fn.zero).params from by omega];exact h9) hK oM) ?_
  rintro nm my ⟨fy,mz,n0,f9,rfl,au,j3,j4,et,kp,kq,kr⟩
  refine⟨_,rfl,?_⟩
  replace au:=au.of_drew
  have kt:=au.size
  have j5:AA [g] w my:=a2.trans au
  have ma:=a6.chg au (zB ·)
  have mb:=a0.run g2 hgS au
  have ku:=et.1
  refine Ac 1 Z<|A1<|AH<|Ao ?_
  exact Af [6] Z fy Z ⟨fy,mz,n0,f9,rfl,j5,j3,j4,Dm,oM,oM,(by first|exact DD oM|exact CG oM oM|exact Ew hc00 hs1 oM|exact Ey hc00 hs1 oM|exact Ez hc00 hs1 oM oM ‹AM (go c0<|CZ _ _ (ex.kids.getD 0 _) _ _) _ _ _› oM (by assumption)|exact EA hc00 hs1 oM oM ‹AM (go c0<|CZ _ _ (ex.kids.getD 0 _) _ _) _ _ _› oM (by assumption)|exact EB hc00 hs1 oM oM ‹AM (go c0<|CZ _ _ (ex.kids.getD 0 _) _ _) _ _ _› (by assumption)|exact D8 hc00 hs1 hkg.1 hkg.2.1 hkg.2.2.1 hkg.2.2.2 hKr oM|exact DZ hc00 hs1 oM oM hKr oM (by assumption)|exact E0 hc00 hs1 oM oM hKr oM (E1 hrl9 oM oM)|exact Bg hc00 hs1 hkg.1 hkg.2.1 hkg.2.2.1 hkg.2.2.2 oM oM hKr oM (by rw[show f9=0 from by omega];exact FZ oM)|exact Bg hc00 hs1 hkg.1 hkg.2.1 hkg.2.2.1 hkg.2.2.2 oM oM hKr oM (by rw[show f9=0 from by omega];exact G0 oM)|exact Bg hc00 hs1 hkg.1 hkg.2.1 hkg.2.2.1 hkg.2.2.2 oM oM hKr oM (by rw[show f9=0 from by omega];exact G3 oM)|exact Bg hc00 hs1 hkg.1 hkg.2.1 hkg.2.2.1 hkg.2.2.2 oM oM hKr oM (by rw[show f9=0 from by omega];exact G4 oM)|exact Bg hc00 hs1 hkg.1 hkg.2.1 hkg.2.2.1 hkg.2.2.2 oM oM hKr oM (by rw[show f9=0 from by omega];exact G5 oM oM)|exact Bg hc00 hs1 hkg.1 hkg.2.1 hkg.2.2.1 hkg.2.2.2 oM oM hKr oM (EC oM oM))⟩
 refine Ap false Z Z (A6 ep) Aa<|Ac 1 Z<|Ai Z<|ZN [0,0] Z ?_
 by_cases eu:ex.kind=((11:Nat):Int)
 ·refine Ap true Z Z (A5 eu) Aa<|Ac 1 Z<|Ah Z<|A0<|ZN [0] Z ?_
  have hwk:=Fj hwf oM
  have hwl:=J2 hwf oM
  refine Ac 1 Z<|A3 ?_
  refine AT (S:=Nat×Value×List (Sr)×Nat×Int) (fun⟨i,vk,ks,s9,c9⟩=>([(7,vk),(8,zI (i:Int)),(0,zP g),(4,zP w.heap.size)])) (fun⟨i,vk,ks,s9,c9⟩ W=>AA [g] w W∧BX W.heap g [vp,zI (o:Int),zI (s9:Int),zI c9]∧BX W.heap w.heap.size [zI ex.kind,zI ex.num,zI ex.pick,zI ex.count,ve]∧i≤(ex.count).toNat∧RN S (B5<|B5 rI) W.heap vk ks∧BV vk∧ks.length=(p.getD (ex.num).toNat Fn.zero).outs.length∧C7 (o+1) ks∧s9≤3000∧(0≤c9∧c9≤9)∧AM (K5 (fun a t=>DY (o+1) (Fb p (o+1) (ex.num).toNat) (p.getD (ex.num).toNat Fn.zero).outs a t) i f2 f3) ks s9 c9) (fun⟨i,vk,ks,s9,c9⟩=>(ex.count).toNat-i) (0,f0,f2,f3,c66) ⟨rfl,rfl,rfl,rfl,trivial⟩ ⟨a2,aa,a6,oM,(by assumption),(by assumption),oM,(by assumption),oM,oM,(by exact⟨rfl,rfl,zO⟩)⟩ ?_
  clear jm lm gw i3 dn lu i0 ae i5 a9 bv en a2 a6
  rintro⟨i,vk,ks,s9,c9⟩ ρ86 ff ⟨al,a7,a8,j6,hrk,hck,hkl,hks,j7,j8,hrl9⟩
  have kv:w.heap.size≤ff.heap.size:=al.size
  have mc:=a7.lt
  have md:=a8.lt
  refine A0<|ZN [0,0,2,0,0,0,0,0,2,0,0] Z<|Ad 1 Z<|Ak (p:=zP w.heap.size) 3 CC Z Z Aa<|Ae (p:=An (zP w.heap.size) 3) (.inr Z) (zI ex.count) AC Z (a8.ldp (i:=3) sM) Aa ?_
  by_cases ev:(i:Int)<ex.count
  ·refine AE true Z Z (A5 ev) Aa<|Ad 2 Z<|Bb Z (Ag (e:=132) Z Z Z)<|Ak (p:=zP g) 3 GT Z Z (Ag (e:=132) Z Z Z)<|Ae (p:=An (zP g) 3) (.inr Z) (zI c9) AC Z (a7.ldp (i:=3) sM) (Ag (e:=132) Z Z Z) ?_
   by_cases ew:c9=((0:Nat):Int)
   ·refine Ap true Z Z (A5 ew) (Ag (e:=132) Z Z Z)<|Ac 1 Z<|Ah Z<|A2<|A0<|A3<|AO _ [0,0,0,0,0,1,0,1,0,0,1,0,4,0] mixed (by kernel_rfl)<|Ad 2 Z ?_
    have hvo:=hvp.outs (ex.num).toNat oM
    refine Bb Z Aa<|Ak (p:=zP g) 0 Q4 Z Z Aa<|Ak (p:=An (zP g) 0) (b:=g) (o:=0) 0 BA Z Z Aa<|Ae (p:=An (An (zP g) 0) 0) (.inl Z) vp C5 Z (a7.ldp (i:=0) sM) Aa<|Ak (p:=zP w.heap.size) 1 Bw Z Z Aa<|Ae (p:=An (zP w.heap.size) 1) (.inl Z) (zI ex.num) AC Z (a8.ldp (i:=1) sM) Aa ?_
    refine Au (v:=vp) ((ex.num).toNat) Fq C9 Z Z hp.isSl oM sD Aa ?_
    obtain⟨cs91,j9,ey⟩:=hp.get (Ax dp) Fn.zero (k:=(ex.num).toNat) sD
    obtain⟨d8,rfl,ez⟩:=RF.of j9
    have g0:=ez.rn.lenle
    unfold maxLen at g0
    refine AD (p:=Aw vp ((ex.num).toNat) 3) 2 BQ Z (ey _<|al.drew.sub<|B2 hgS) Aa<|Ae (p:=An (Aw vp ((ex.num).toNat) 3) 2) (.inl Z) d8 Ba Z ((ey _<|al.drew.sub<|B2 hgS).ld (i:=2) (by simp[DQ,DU])) Aa<|Ad 1 Z ?_
    refine AI 201 [] [] [zP g,d8,vk] Z Z Sl Aa (Sz (ex.num).toNat dp (fun d9 h9=>IH1 (ex.num).toNat oM d9) _ S g vp dp (o) (s9) (c9) (p) d8 ((p.getD ((ex.num).toNat) Fn.zero).outs) vk (ks) (fun b hb=>(by have:=hS b hb;omega:b<ff.heap.size)) hgS a7 (hp.chg (Al<|Ax dp)<|al.drew.sub<|B2 hgS) oM oM oM (ez.rn.chg (Al<|Aq dp)<|al.drew.sub<|B2 hgS) hrk hck hvp oM (by intro k hk;have h9:=hvp.wf (ex.num).toNat oM k hk;rw[show(ks.length:Int)=(p.getD (ex.num).toNat Fn.zero).params from by omega];exact h9) hks (by intro k hk;have:=hvp.deep (ex.num).toNat oM k hk;omega) oM) ?_
    rintro nn n1 ⟨n2,n3,n4,n5,rfl,av,ja,me,b0,kw,kx,ky⟩
    refine⟨_,rfl,?_⟩
    replace av:=av.of_drew
    have kz:=av.size
    have jb:AA [g] w n1:=al.trans av
    have jc:=a8.chg av (zB ·)
    have mf:=hrk.run g2 hgS av
    have l0:=b0.2.1
    have l1:=b0.2.2
    have l2:=b0.1
    exact Ac 1 Z<|Ab _ [0,0,0] Z<|Ad 1 Z<|AQ ((i+1:Nat):Int) Z Z (Be oM oM) Aa<|Ac 1 Z ⟨(i+1,n2,n3,n4,n5),_,rfl,zR,⟨jb,ja,jc,oM,(by assumption),(by assumption),oM,(by assumption),oM,oM,(by exact Tq hrl9 oM (by assumption))⟩,zD⟩
   refine Ap false Z Z (A6 ew) (Ag (e:=132) Z Z Z)<|Ac 1 Z<|Ai Z<|A4<|Ay<|Ay<|At<|ZN [0,0,2,0,2,0] Z<|Ad 1 Z<|Ak (p:=zP w.heap.size) 2 Cn Z Z Aa<|Ae (p:=An (zP w.heap.size) 2) (.inr Z) (zI ex.pick) AC Z (a8.ldp (i:=2) sM) Aa ?_
   refine Au (v:=vk) ((ex.pick).toNat) Bs AV Z Z hrk.slL oM sD Aa ?_
   obtain⟨da,jd,g3⟩:=RN.getL (w:=ff) g1 [] (k:=(ex.pick).toNat) hrk sD
   have g4:=g3.lenL
   unfold maxLen at g4
   refine Ae (p:=Aw vk ((ex.pick).toNat) 1) (.inr Z) da AZ Z (jd _<|AA.refl _ _) Aa<|Ac 1 Z<|A1<|AH<|Ao ?_
   exact Af [6] Z da Z ⟨da,ks.getD ((ex.pick).toNat) [],s9,c9,rfl,al,a7,g3,Dm,oM,oM,SA⟩
  refine AE false Z Z (A6 ev) Aa<|Ac 7 Z<|Ai Z<|A4<|Ay<|Ay<|At<|ZN [0,0,2,0,2,0] Z<|Ad 1 Z<|Ak (p:=zP w.heap.size) 2 Cn Z Z Aa<|Ae (p:=An (zP w.heap.size) 2) (.inr Z) (zI ex.pick) AC Z (a8.ldp (i:=2) sM) Aa ?_
  refine Au (v:=vk) ((ex.pick).toNat) Bs AV Z Z hrk.slL oM sD Aa ?_
  obtain⟨b1,g5,c5⟩:=RN.getL (w:=ff) g1 [] (k:=(ex.pick).toNat) hrk sD
  have db:=c5.lenL
  unfold maxLen at db
  refine Ae (p:=Aw vk ((ex.pick).toNat) 1) (.inr Z) b1 AZ Z (g5 _<|AA.refl _ _) Aa<|Ac 1 Z<|A1<|AH<|Ao ?_
  exact Af [6] Z b1 Z ⟨b1,ks.getD ((ex.pick).toNat) [],s9,c9,rfl,al,a7,c5,Dm,oM,oM,SA⟩
 refine Ap false Z Z (A6 eu) Aa<|Ac 1 Z<|Ai Z<|ZN [0,0] Z ?_
 by_cases c6:ex.kind=((3:Nat):Int)
 ·refine Ap true Z Z (A5 c6) Aa<|Ac 1 Z<|Ah Z<|A0<|AO _ [0,0,1,0,0,1,3,0] mixed (by kernel_rfl) ?_
  have hwk:=Im hwf oM
  have hK0:=hK 0 oM
  have hK1:=hK 1 oM
  have hK1l:=hK1.1
  refine Ad 1 Z<|Au (v:=f0) 0 Bs AV Z Z a0.slL Z sD Aa ?_
  obtain⟨c7,g6,b2⟩:=RN.getL (w:=f1) g1 [] (k:=0) a0 sD
  have dc:=b2.lenL
  unfold maxLen at dc
  refine Ae (p:=Aw f0 0 1) (.inl Z) c7 AZ Z (g6 _ (AA.refl _ _).drew) Aa<|Ad 1 Z<|Au (v:=f0) 1 Bs AV Z Z a0.slL Z sD Aa ?_
  obtain⟨c8,g7,b3⟩:=RN.getL (w:=f1) g1 [] (k:=1) a0 sD
  have dd:=b3.lenL
  unfold maxLen at dd
  refine Ae (p:=Aw f0 1 1) (.inl Z) c8 AZ Z (g7 _ (AA.refl _ _).drew) Aa<|Am 123 [] [] [c7,c8] Z Z Og Aa (Ea _ _ _ _ _ (b2).rd (b3).rd Lt Nf hK0.2 hK1.2) ?_
  rintro n6 fh ⟨b4,rfl,a3,ag⟩
  refine⟨_,rfl,a3,?_⟩
  replace a3:=a3.of_drew
  have je:=a3.size
  have g8:AA [g] w fh:=a2.ext a3
  have b5:=aa.ext a3
  have g9:=a6.ext a3
  have l3:=a0.ext g2 a3
  have l4:=b2.ext g1 a3
  have l5:=b3.ext g1 a3
  replace ag:=ag.low (B':=f1.heap.size)<|A7 _
  refine Ac 1 Z<|A1<|AH<|Ao ?_
  exact Af [6] Z b4 Z ⟨b4,Cz (f2.getD 0 [])<|f2.getD 1 [],f3,c66,rfl,g8,b5,RN.of_fr1 ag fun b hb=>zH<|hS b hb,Dm,oM,oM,JJ⟩
 refine Ap false Z Z (A6 c6) Aa<|Ac 1 Z<|Ai Z<|ZN [0,0] Z ?_
 by_cases ca:ex.kind=((4:Nat):Int)
 ·refine Ap true Z Z (A5 ca) Aa<|Ac 1 Z<|Ah Z<|A0<|AO _ [0,0,1,0,0,1,3,0] mixed (by kernel_rfl) ?_
  have hwk:=Im hwf oM
  have hK0:=hK 0 oM
  have hK1:=hK 1 oM
  have hK1l:=hK1.1
  refine Ad 1 Z<|Au (v:=f0) 0 Bs AV Z Z a0.slL Z sD Aa ?_
  obtain⟨cb,ga,b6⟩:=RN.getL (w:=f1) g1 [] (k:=0) a0 sD
  have de:=b6.lenL
  unfold maxLen at de
  refine Ae (p:=Aw f0 0 1) (.inl Z) cb AZ Z (ga _ (AA.refl _ _).drew) Aa<|Ad 1 Z<|Au (v:=f0) 1 Bs AV Z Z a0.slL Z sD Aa ?_
  obtain⟨cc,gb,b7⟩:=RN.getL (w:=f1) g1 [] (k:=1) a0 sD
  have df:=b7.lenL
  unfold maxLen at df
  refine Ae (p:=Aw f0 1 1) (.inl Z) cc AZ Z (gb _ (AA.refl _ _).drew) Aa<|Am 172 [] [] [cb,cc] Z Z UG Aa (Hx _ _ _ _ _ (b6).rd (b7).rd Lt (zH<|hK1.1) Nf hK0.2 hK1.2) ?_
  rintro n7 fi ⟨b8,rfl,a4,ah⟩
  refine⟨_,rfl,a4,?_⟩
  replace a4:=a4.of_drew
  have jf:=a4.size
  have gc:AA [g] w fi:=a2.ext a4
  have b9:=aa.ext a4
  have gd:=a6.ext a4
  have l6:=a0.ext g2 a4
  have l7:=b6.ext g1 a4
  have l8:=b7.ext g1 a4
  replace ah:=ah.low (B':=f1.heap.size)<|A7 _
  refine Ac 1 Z<|A1<|AH<|Ao ?_
  exact Af [6] Z b8 Z ⟨b8,GL (f2.getD 0 [])<|f2.getD 1 [],f3,c66,rfl,gc,b9,RN.of_fr1 ah fun b hb=>zH<|hS b hb,Dm,oM,oM,JJ⟩
 refine Ap false Z Z (A6 ca) Aa<|Ac 1 Z<|Ai Z<|ZN [0,0] Z ?_
 by_cases cd:ex.kind=((5:Nat):Int)
 ·refine Ap true Z Z (A5 cd) Aa<|Ac 1 Z<|Ah Z<|A0<|AO _ [0,0,1,0,0,1,3,0] mixed (by kernel_rfl) ?_
  have hwk:=Im hwf oM
  have hK0:=hK 0 oM
  have hK1:=hK 1 oM
  have hK1l:=hK1.1
  refine Ad 1 Z<|Au (v:=f0) 0 Bs AV Z Z a0.slL Z sD Aa ?_
  obtain⟨ce,ge,ba⟩:=RN.getL (w:=f1) g1 [] (k:=0) a0 sD
  have dg:=ba.lenL
  unfold maxLen at dg
  refine Ae (p:=Aw f0 0 1) (.inl Z) ce AZ Z (ge _ (AA.refl _ _).drew) Aa<|Ad 1 Z<|Au (v:=f0) 1 Bs AV Z Z a0.slL Z sD Aa ?_
  obtain⟨cf,gf,bb⟩:=RN.getL (w:=f1) g1 [] (k:=1) a0 sD
  have dh:=bb.lenL
  unfold maxLen at dh
  refine Ae (p:=Aw f0 1 1) (.inl Z) cf AZ Z (gf _ (AA.refl _ _).drew) Aa<|Am 173 [] [] [ce,cf] Z Z Oh Aa (Dl _ _ _ _ _ (ba).rd (bb).rd Lt Nf hK0.2 hK1.2) ?_
  rintro n8 fj ⟨bc,rfl,a5,ai⟩
  refine⟨_,rfl,a5,?_⟩
  replace a5:=a5.of_drew
  have jg:=a5.size
  have gg:AA [g] w fj:=a2.ext a5
  have bd:=aa.ext a5
  have gh:=a6.ext a5
  have l9:=a0.ext g2 a5
  have la:=ba.ext g1 a5
  have lb:=bb.ext g1 a5
  replace ai:=ai.low (B':=f1.heap.size)<|A7 _
  refine Ac 1 Z<|A1<|AH<|Ao ?_
  exact Af [6] Z bc Z ⟨bc,Cs (f2.getD 0 [])<|f2.getD 1 [],f3,c66,rfl,gg,bd,RN.of_fr1 ai fun b hb=>zH<|hS b hb,Dm,oM,oM,JJ⟩
 refine Ap false Z Z (A6 cd) Aa<|Ac 1 Z<|Ai Z<|ZN [0,0] Z ?_
 by_cases cg:ex.kind=((7:Nat):Int)
 ·refine Ap true Z Z (A5 cg) Aa<|Ac 1 Z<|Ah Z<|ZN [0,0,2,3,0] Z ?_
  have hwk:=MM hwf oM
  have hK0:=hK 0 oM
  refine Ad 1 Z<|Au (v:=f0) 0 Bs AV Z Z a0.slL Z sD Aa ?_
  obtain⟨ch,gi,be⟩:=RN.getL (w:=f1) g1 [] (k:=0) a0 sD
  have di:=be.lenL
  unfold maxLen at di
  refine Ae (p:=Aw f0 0 1) (.inr Z) ch AZ Z (gi _<|AA.refl _ _) Aa<|Am 174 [] [] [ch,zI ((1000002:Nat):Int)] Z Z My Aa (D9 _ _ _ _ (be).rd oM Lt hK0.2 oM) ?_
  rintro n9 fk ⟨bf,rfl,ac,bx⟩
  refine⟨_,rfl,ac,?_⟩
  have jh:=ac.size
  have gj:AA [g] w fk:=a2.ext ac
  have bg:=aa.ext ac
  have gk:=a6.ext ac
  have lc:=a0.ext g2 ac
  have le:=be.ext g1 ac
  refine Ac 1 Z<|A1<|AH<|Ao ?_
  exact Af [6] Z bf Z ⟨bf,Di (f2.getD 0 []) ((1000002:Nat):Int),f3,c66,rfl,gj,bg,RN.of_fr1 bx fun b hb=>zH<|hS b hb,Dm,oM,oM,JJ⟩
 refine Ap false Z Z (A6 cg) Aa<|Ac 1 Z<|Ai Z<|A2<|A0<|ZN [0,0,2,0,2,0] Z ?_
 have ji:=Vr hwf ⟨hkg,zO⟩
 have hwk:=Im hwf<|.inr<|.inr<|.inr ji
 have hK0:=hK 0 oM
 have hK1:=hK 1 oM
 have hK1l:=hK1.1
 refine Ad 1 Z<|Au (v:=f0) 1 Bs AV Z Z a0.slL Z sD Aa ?_
 obtain⟨bh,gl,am⟩:=RN.getL (w:=f1) g1 [] (k:=1) a0 sD
 have dj:=am.lenL
 unfold maxLen at dj
 refine Ae (p:=Aw f0 1 1) (.inr Z) bh AZ Z (gl _<|AA.refl _ _) Aa<|Au (v:=bh) 0 Bl BD Z Z am.slL Z sD Aa ?_
 have gm:=RN.getI (w:=f1) (k:=0) am sD
 refine Ae (p:=Aw bh 0 1) (.inr Z) (zI<|(f2.getD 1 []).getD 0 0) AC Z (gm.1 _<|AA.refl _ _) Aa ?_
 by_cases ci:(f2.getD 1 []).getD 0 0=((0:Nat):Int)
 ·refine Ap true Z Z (A5 ci) Aa<|Aj<|Ah Z<|ZN [0,0,0,4] Z<|Ad 1 Z<|Bb Z Aa<|Ak (p:=zP g) 3 GT Z Z Aa (BH (k:=3) (w:=f1) I3 Z Z ⟨rfl,rfl⟩ aa sM Aa fun f5 an lf ao=>?_)
  replace ao:BX f5.heap g [vp,zI (o:Int),zI (f3:Int),zI ((6:Nat):Int)]:=ao
  have cj:AA [g] w f5:=a2.trans an
  have jj:=an.size
  have gn:=a6.chg an (zB ·)
  have gp:=a0.run g2 hgS an
  have gq:=am.run g1 hgS an
  refine Aj<|ZN [0,3,0] Z<|Ad 1 Z<|Am 252 [] [] [zP g,zI ((0:Nat):Int)] Z Z Ok Aa (BI _ S g vp dp (o) (f3) ((6:Nat):Int) (p) _ (fun b hb=>(by have:=hS b hb;omega:b<f5.heap.size)) hgS ao (hp.chg (Al<|Ax dp)<|cj.sub<|B2 hgS) oM oM oM oM) ?_
  rintro na fl ⟨bi,rfl,ad,bz⟩
  refine⟨_,rfl,ad,?_⟩
  have jk:=ad.size
  have gr:AA [g] w fl:=cj.ext ad
  have aw:=ao.ext ad
  have dm:=gn.ext ad
  have lg:=gp.ext g2 ad
  have lh:=gq.ext g1 ad
  refine Ac 1 Z<|A1<|Ao ?_
  exact Af [6] Z bi Z ⟨bi,HQ (o+1) ((0:Nat):Int),f3,((6:Nat):Int),rfl,gr,aw,RN.of_fr1 bz fun b hb=>zH<|hS b hb,Dm,oM,oM,(by first|exact DD oM|exact CG oM oM|exact Ew hc00 hs1 oM|exact Ey hc00 hs1 oM|exact Ez hc00 hs1 oM oM ‹AM (go c0<|CZ _ _ (ex.kids.getD 0 _) _ _) _ _ _› oM (by assumption)|exact EA hc00 hs1 oM oM ‹AM (go c0<|CZ _ _ (ex.kids.getD 0 _) _ _) _ _ _› oM (by assumption)|exact EB hc00 hs1 oM oM ‹AM (go c0<|CZ _ _ (ex.kids.getD 0 _) _ _) _ _ _› (by assumption)|exact D8 hc00 hs1 hkg.1 hkg.2.1 hkg.2.2.1 hkg.2.2.2 hKr oM|exact DZ hc00 hs1 oM oM hKr oM (by assumption)|exact E0 hc00 hs1 oM oM hKr oM (E1 hrl9 oM oM)|exact Bg hc00 hs1 hkg.1 hkg.2.1 hkg.2.2.1 hkg.2.2.2 oM oM hKr oM (by rw[show((6:Nat):Int)=0 from by omega];exact FZ oM)|exact Bg hc00 hs1 hkg.1 hkg.2.1 hkg.2.2.1 hkg.2.2.2 oM oM hKr oM (by rw[show((6:Nat):Int)=0 from by omega];exact G0 oM)|exact Bg hc00 hs1 hkg.1 hkg.2.1 hkg.2.2.1 hkg.2.2.2 oM oM hKr oM (by rw[show((6:Nat):Int)=0 from by omega];exact G3 oM)|exact Bg hc00 hs1 hkg.1 hkg.2.1 hkg.2.2.1 hkg.2.2.2 oM oM hKr oM (by rw[show((6:Nat):Int)=0 from by omega];exact G4 oM)|exact Bg hc00 hs1 hkg.1 hkg.2.1 hkg.2.2.1 hkg.2.2.2 oM oM hKr oM (by rw[show((6:Nat):Int)=0 from by omega];exact G5 oM oM)|exact Bg hc00 hs1 hkg.1 hkg.2.1 hkg.2.2.1 hkg.2.2.2 oM oM hKr oM (EC oM oM))⟩
 refine Ap false Z Z (A6 ci) Aa<|Aj<|Ai Z<|A2<|A0<|AO _ [0,0,1,0,0,1,3,0] mixed (by kernel_rfl)<|Ad 1 Z<|Au (v:=f0) 0 Bs AV Z Z a0.slL Z sD Aa ?_
 obtain⟨ck,gs,bj⟩:=RN.getL (w:=f1) g1 [] (k:=0) a0 sD
 have dk:=bj.lenL
 unfold maxLen at dk
 refine Ae (p:=Aw f0 0 1) (.inl Z) ck AZ Z (gs _ (AA.refl _ _).drew) Aa<|Ad 1 Z<|Au (v:=f0) 1 Bs AV Z Z a0.slL Z sD Aa ?_
 obtain⟨cl,gt,bk⟩:=RN.getL (w:=f1) g1 [] (k:=1) a0 sD
 have dl:=bk.lenL
 unfold maxLen at dl
 refine Ae (p:=Aw f0 1 1) (.inl Z) cl AZ Z (gt _ (AA.refl _ _).drew) Aa<|Am 175 [] [] [ck,cl] Z Z Si Aa (EV _ _ _ _ _ (bj).rd (bk).rd Lt Nf (zH<|hK1.1) hK0.2 hK1.2) ?_
 rintro nb fm ⟨bl,rfl,a1,aj⟩
 refine⟨_,rfl,a1,?_⟩
 replace a1:=a1.of_drew
 have jl:=a1.size
 have gu:AA [g] w fm:=a2.ext a1
 have bm:=aa.ext a1
 have gv:=a6.ext a1
 have li:=a0.ext g2 a1
 have lj:=am.ext g1 a1
 have lk:=bj.ext g1 a1
 have ll:=bk.ext g1 a1
 replace aj:=aj.low (B':=f1.heap.size)<|A7 _
 refine Ac 1 Z<|A1 ?_
 exact Af [6] Z bl Z ⟨bl,Cm (f2.getD 0 [])<|f2.getD 1 [],f3,c66,rfl,gu,bm,RN.of_fr1 aj fun b hb=>zH<|hS b hb,Dm,oM,oM,JJ⟩
theorem Uc:∀F d,PV F d:=by
 intro F
 induction F using Nat.strongRecOn with
 |_ F ihF =>
  intro d
  induction d using Nat.strongRecOn with
  |_ d ihd =>
   intro w S g vp dp o s0 c0 p ve ex vv env hS hgS a0 hp ho a1 a2 hex henv hqenv hvp hF hwf hse hdp
   exact Gx w S F g vp dp o s0 c0 p d ve ex vv env hS hgS a0 hp ho a1 a2 hex henv hqenv hvp hF hwf hse hdp ihF ihd
theorem VS (F d:Nat):PA F d:=Sz F d fun d' _=>Uc F d'
theorem Gc (w:World)(dp:Nat)(vp:Value)(p:List Fn)(f:Int)(va:Value)(a:List (Sr))(o:Nat)(hp:RP [] dp w.heap vp p)(_hf:Bk f)(ha:RN [] (B5 (B5 rI)) w.heap va a)(hqa:BV va)(hvp:FY p)(hf:0≤f∧f<(p.length:Int))(hl:(a.length:Int)=(p.getD f.toNat Fn.zero).params)(hse:C7 (o+1) a)(ho:o≤12) :
  Calls Tryz.prog 163 #[(.agg #[vp]),zI f,va,zI (o:Int)] w (fun e w'=>∃v0:Value,e=.returned (.tuple #[v0,zI ((Oq p (o+1) f.toNat a:Nat):Int),zI (MO p (o+1) f.toNat a)])∧AF w w'∧Fr (Bo (Bo rI 2) 27) w.heap.size w'.heap.size w'.heap v0 (Rb p (o+1) f.toNat a)∧Ul p (o+1) f.toNat a):=by
 refine As [.agg #[vp],zI f,va,zI (o:Int)] 56 Tryz.func163 Z Z sM ?_
 have bq:AF w w:=AF.refl w
 have ch:=hp.lenle
 unfold maxLen at ch
 have ci:=ha.lenL
 unfold maxLen at ci
 refine ZN [3,0,0,0] Z (Bj (cs:=#[vp]) Z Aa fun w1 b2 c4 ak=>?_)
 have b3:=b2.size
 have br:=bq.trans b2
 replace ak:BX w1.heap w.heap.size [vp]:=ak
 refine Ac 3 Z<|ZN [2,0,0,3,0] Z<|AJ (p:=zP w.heap.size) (.inr Z) [vp] Df Z (fun cq c5=>LD.of_box<|BX.ext (w:=w1) ak c5) Z Aa<|Ad 1 Z ?_
 have b4:∀(vp:Value) (cj:Nat) (h2_0:Fu vp cj) (wq:World),(Instr.build 259 #[(0,.agg #[vp]),(1,zI (o:Int))]).run Tryz.prog wq=.ok (.agg #[vp,zI (o:Int),zI 0,zI 0]) wq:=by intro vp cj h2_0 wq;obtain⟨a2_0,cl,rfl,_⟩:=h2_0;kernel_rfl
 refine CI (ps:=#[(0,.agg #[vp]),(1,zI (o:Int))]) (.agg #[vp,zI (o:Int),zI 0,zI 0]) (by simp only[zc,zf,zh];rfl) (fun wq=>b4 vp _ hp.isSl wq) Aa ?_
 have cg:=ak.lt
 refine Bj (cs:=#[vp,zI (o:Int),zI 0,zI 0]) Z Aa fun w3 az c7 b5=>?_
 have b6:=az.size
 have ac:=br.trans az
 have ad:=ak.ext az
 replace b5:BX w3.heap w1.heap.size [vp,zI (o:Int),zI 0,zI 0]:=b5
 refine Ac 1 Z<|ZN [0,0,2,0,0,0,2,0,4,0] Z ?_
 have cr:=hvp.par f.toNat oM
 have ct:=hvp.outs f.toNat oM
 refine Ad 1 Z<|Ak (p:=zP w.heap.size) 0 BA Z Z Aa<|Ae (p:=An (zP w.heap.size) 0) (.inr Z) vp C5 Z (ad.ldp (i:=0) sM) Aa<|Ad 1 Z<|Au (v:=vp) ((f).toNat) Fq C9 Z Z hp.isSl oM sD Aa ?_
 obtain⟨cs5,c8,bs⟩:=hp.get (Ax dp) Fn.zero (k:=(f).toNat) sD
 obtain⟨b7,rfl,bt⟩:=RF.of c8
 have al:=bt.rn.lenle
 unfold maxLen at al
 refine AD (p:=Aw vp ((f).toNat) 3) 2 BQ Z (bs _<|AA.of_ext [] ac) Aa<|Ae (p:=An (Aw vp ((f).toNat) 3) 2) (.inr Z) b7 Ba Z ((bs _<|AA.of_ext [] ac).ld (i:=2) (by simp[DQ,DU])) Aa<|Ad 1 Z ?_
 refine AI 201 [] [] [zP w1.heap.size,b7,va] Z Z Sl Aa (VS (f.toNat) dp _ [w1.heap.size] w1.heap.size vp dp (o) (0) (0) (p) b7 ((p.getD ((f).toNat) Fn.zero).outs) va (a) (fun b hb=>(by have:=A9 hb;omega:b<w3.heap.size)) (List.mem_singleton.2 Z) b5 ((hp.add (F:=[w1.heap.size]) (Al<|Ax dp) fun b hb=>zH<|A9 hb).ext (Al<|Ax dp) ac) oM oM oM ((bt.rn.add (F:=[w1.heap.size]) (Al<|Aq dp) fun b hb=>zH<|A9 hb).ext (Al<|Aq dp) ac) ((ha.add (F:=[w1.heap.size]) g2 fun b hb=>zH<|A9 hb).ext g2 ac) hqa hvp oM (by intro k hk;have h9:=hvp.wf f.toNat oM k hk;rw[hl];exact h9) hse (by intro k hk;have:=hvp.deep f.toNat oM k hk;omega) oM) ?_
 rintro e6 w6 ⟨v6,x6,s6,c6,rfl,b0,b8,c9,ae,b9,ba,bb⟩
 refine⟨_,rfl,?_⟩
 have ca:=b0.size
 have b1:AF w w6:=b0.below ac (fun b hb=>by have:b=w1.heap.size:=(by simpa using hb);omega) ac.size
 have bu:=ad.chg b0 (zB ·)
 have am:=ae.2.1
 have an:=ae.2.2
 have cb:=ae.1
 have bc:=c9.rt g2
 have hRL:=bb
 have hCB:=ba
 have hEP:=Ul.mk' hRL hCB b9 am an
 have hXS:=an
 have hXL:=am
 refine Ac 1 Z<|A0<|ZN [0,0,0,2,0] Z<|Ad 1 Z<|Bb Z Aa<|Ak (p:=zP w1.heap.size) 3 GT Z Z Aa<|Ae (p:=An (zP w1.heap.size) 3) (.inr Z) (zI c6) AC Z (b8.ldp (i:=3) sM) Aa ?_
 by_cases ao:c6≠((0:Nat):Int)
 ·exact AU true Z Z (A5 ao) Aa<|Aj<|Ah Z<|A0<|AO _ [0,0,0,1,0,0,0] mixed (by kernel_rfl)<|Ad 1 Z<|Bb Z Aa<|Ak (p:=zP w1.heap.size) 3 GT Z Z Aa<|Ae (p:=An (zP w1.heap.size) 3) (.inl Z) (zI c6) AC Z (b8.ldp (i:=3) sM) Aa<|Ac 3 Z<|A1<|Ao<|Af [8,9,10] Z (.tuple #[zN,zI ((0:Nat):Int),zI c6]) Z ⟨zN,(by rw[Pr<|In hRL oM,J3<|In hRL oM] <;> rfl),b1.drew,(by rw[NV<|In hRL oM];exact K3 _ _ _),hEP⟩
 refine AU false Z Z (A6 ao) Aa<|Aj<|Ai Z<|A2<|ZN [3,0] Z (Cp (Bo rI 2) o1 Bs AV Aa fun cm cu a2 bd ap=>?_)
 have aq:=a2.size
 have ar:=b1.trans a2
 have af:=bu.ext a2
 have ag:=b8.ext a2
 have be:=bc.ext g2 a2
 refine Ac 1 Z<|A0<|ZN [0,0,0] Z<|Ad 1 Z<|AP (v:=v6) Bs Z be.slL Aa<|Ac 1 Z<|A3 ?_
 refine AT (S:=Nat×Value) (fun⟨k,vo⟩=>([(13,vo),(41,zI (k:Int)),(11,zP w1.heap.size),(39,v6),(40,zI (x6.length:Int))])) (fun⟨k,vo⟩ W=>AF w W∧Fr (Bo (Bo rI 2) 27) w6.heap.size W.heap.size W.heap vo ((x6).take k)∧BX W.heap w1.heap.size [vp,zI (o:Int),zI (s6:Int),zI c6]∧k≤(x6).length∧RT w6.heap.size (B5<|B5 rI) W.heap v6 x6∧w6.heap.size≤W.heap.size∧w1.heap.size<w6.heap.size∧w6.heap.size≤w6.heap.size∧w6.heap.size≤W.heap.size) (fun⟨k,vo⟩=>(x6).length-k) (0,cm) ⟨rfl,rfl,rfl,rfl,rfl,trivial⟩ ⟨ar,ap.up o2,ag,sD,(by assumption),oM,oM,oM,oM⟩ ?_
 clear bq c4 b2 b3 br c7 az b6 ac al b0 bu ap bd a2 aq ar af
 rintro⟨k,vo⟩ ρ18 ck ⟨ah,a8,a0,bf,a9,bv,bw,bx,bz⟩
 have c0:w.heap.size≤ck.heap.size:=ah.size
 have cc:=a0.lt
 refine ZN [0] Z ?_
 by_cases au:(k:Int)<(x6.length:Int)
 ·refine AE true Z Z (A5 au) Aa<|Aj<|A0<|Ah Z<|A2<|A0<|A3<|ZN [0,2,0] Z ?_
  have hkx:=hXS k oM
  have hkl:=hkx.1
  refine Au (v:=v6) k Bs AV Z Z a9.slL Z sD Aa ?_
  obtain⟨av,bg,ai⟩:=RT.getL g1 [] (k:=k) a9 sD
  have aw:=ai.lenL
  unfold maxLen at aw
  refine Ae (p:=Aw v6 k 1) (.inr Z) av AZ Z bg Aa<|Ac 1 Z<|Ab _ [0,0,3,3,4,0] Z<|Ad 2 Z<|Am 79 [] [] [av] Z Z TY Aa (BM _ _ _ ai.rd oM) ?_
  rintro cv cw ⟨ax,rfl,a1,aj⟩
  refine⟨_,rfl,a1,?_⟩
  have c1:=a1.size
  have bh:=ah.trans a1
  have a3:=a8.ext (o2) a1
  have a4:=a0.ext a1
  have bi:=a9.ext g2 a1
  have bj:=ai.ext g1 a1
  refine By (u:=ax) (B:=ck.heap.size) o1 Bs AV Z Z aj (by first|exact A7 _|omega) Aa fun cn cx a5 cd bk=>?_
  have c2:=a5.size
  have ay:=bh.trans a5
  have a6:=a3.ext (o2) a5
  have a7:=a4.ext a5
  have bl:=bi.ext g2 a5
  have bm:=bj.ext g1 a5
  refine GF o1 (v:=vo) (a:=cn) Bs AV Z Z Z a6 oM bk oM oM sD (by unfold maxLen;first|omega|assumption|(simp;done)|(simp;omega)) Aa fun co cp cy aa ab bn=>?_
  have bo:AF w cp:=aa.below ay (fun c hc=>A8 b1.size (ab c hc).1) ay.size
  have c3:=aa.size
  have ce:=bl.chg g2 aa fun c hc=>zH<|ab c hc
  have cf:=bm.chg g1 aa fun c hc=>zH<|ab c hc
  have bp:=a7.chg aa fun hm=>zH<|ab _ hm
  refine Ac 1 Z<|Ab _ [0,0] Z<|AQ ((k+1:Nat):Int) Z Z (Be oM sD) Aa<|Ac 1 Z ?_
  exact⟨(k+1,co),_,rfl,zR,⟨bo,(by rw[Dn [] oM];exact bn.up o2),bp,sD,(by assumption),oM,oM,oM,oM⟩,zD⟩
 refine AE false Z Z (A6 au) Aa<|Aj<|A0<|Ai Z<|A4<|Ay<|Ay<|At<|A0<|AO _ [0,0,0,0,1,0,0,0] mixed (by kernel_rfl)<|Ad 2 Z<|Bb Z Aa<|Ak (p:=zP w1.heap.size) 2 Kz Z Z Aa<|Ae (p:=An (zP w1.heap.size) 2) (.inl Z) (zI (s6:Int)) AC Z (a0.ldp (i:=2) sM) Aa<|Ac 3 Z<|A1 ?_
 exact Af [8,9,10] Z (.tuple #[vo,zI (s6:Int),zI ((0:Nat):Int)]) Z ⟨vo,(by rw[Pq<|KS hRL oM,KU<|KS hRL oM] <;> rfl),ah.drew,(by have h:=(a8.up o2).low b1.size;rw[KT<|KS hRL oM];rwa [za oM]at h),hEP⟩
theorem H4 (w:World)(dex:Nat)(ve:Value)(ex:Ex)(hex:RX [] dex w.heap ve ex)(hs:ex.size≤1000000000) :
  Calls Tryz.prog 157 #[(.agg #[(zI ex.kind),(zI ex.num),(zI ex.pick),(zI ex.count),ve])] w (fun e w'=>e=.returned (zI (ex.size:Int))∧AF w w'):=by
 induction dex using Nat.strongRecOn generalizing w ve ex
 rename_i dex ih
 refine As [.agg #[zI ex.kind,zI ex.num,zI ex.pick,zI ex.count,ve]] 19 Tryz.func157 Z Z sM ?_
 have ab:AF w w:=AF.refl w
 have aw:=hex.rn.lenle
 unfold maxLen at aw
 have hsk:=Cd ex
 refine ZN [3,0] Z (Bj (cs:=#[zI ex.kind,zI ex.num,zI ex.pick,zI ex.count,ve]) Z Aa fun w1 a2 aj a3=>?_)
 have a4:=a2.size
 have ac:=ab.trans a2
 replace a3:BX w1.heap w.heap.size [zI ex.kind,zI ex.num,zI ex.pick,zI ex.count,ve]:=a3
 refine Ac 1 Z<|ZO Z<|A0<|ZN [0,2,0,0] Z<|Ak (p:=zP w.heap.size) 4 B8 Z Z Aa<|Ae (p:=An (zP w.heap.size) 4) (.inr Z) ve Ba Z (a3.ldp (i:=4) sM) Aa<|AP (v:=ve) CB Z hex.rn.isSl Aa<|Ac 1 Z<|A3 ?_
 refine AT (S:=Nat×Nat) (fun⟨k,sz⟩=>([(3,zI (sz:Int)),(9,zI (k:Int)),(7,ve),(8,zI (ex.kids.length:Int))])) (fun⟨k,sz⟩ W=>AF w W∧k≤ex.kids.length∧sz=1+Ex.sizes (ex.kids.take k)) (fun⟨k,sz⟩=>ex.kids.length-k) (0,1) ⟨rfl,rfl,rfl,rfl,trivial⟩ ⟨ac,sD,(by rw[List.take_zero,HN])⟩ ?_
 clear ab aj a2 a4 ac
 rintro⟨k,sz⟩ ρ2 w2 ⟨a1,ad,hsz⟩
 have ak:w.heap.size≤w2.heap.size:=a1.size
 refine ZN [0] Z ?_
 by_cases ae:(k:Int)<(ex.kids.length:Int)
 ·refine AE true Z Z (A5 ae) Aa<|Aj<|A0<|Ah Z<|A2<|A0<|A3<|ZN [0,2,3,4] Z ?_
  have hst:=CW (l:=ex.kids) (k:=k) oM
  have hle:=CF ex.kids (k+1)
  have hdt:=GH (l:=ex.kids) (k:=k) oM
  have hda:=Eh<|ex.kids.getD k Ex.zero
  refine Au (v:=ve) k CB Bf Z Z hex.rn.isSl Z sD Aa ?_
  obtain⟨cs4,al,am⟩:=hex.rn.get (Aq dex) Ex.zero (k:=k) sD
  obtain⟨dd4,a0,ar,rfl,a5⟩:=RX.of al
  have a6:=a5.rn.lenle
  unfold maxLen at a6
  refine AJ (p:=Aw ve k 5) (.inr Z) [zI<|(ex.kids.getD k Ex.zero).kind,zI<|(ex.kids.getD k Ex.zero).num,zI<|(ex.kids.getD k Ex.zero).pick,zI<|(ex.kids.getD k Ex.zero).count,a0] Bx Z (fun ax a7=>am ax<|AA.of_ext []<|a1.trans a7) Z Aa (Br (z:=.agg #[zI 0,zI 0,zI 0,zI 0,zN]) K9 Aa fun w5 af au a8=>?_)
  have an:=af.size
  have ag:=a1.trans af
  replace a8:BX w5.heap w2.heap.size [zI 0,zI 0,zI 0,zI 0,zN]:=a8
  refine Ce (vs:=[zI<|(ex.kids.getD k Ex.zero).kind,zI<|(ex.kids.getD k Ex.zero).num,zI<|(ex.kids.getD k Ex.zero).pick,zI<|(ex.kids.getD k Ex.zero).count,a0]) Bx Z Z a5.ones a8 Z Z Aa fun w6 ah av a9=>?_
  replace a9:BX w6.heap w2.heap.size [zI ((ex.kids.getD k Ex.zero).kind),zI ((ex.kids.getD k Ex.zero).num),zI ((ex.kids.getD k Ex.zero).pick),zI ((ex.kids.getD k Ex.zero).count),a0]:=a9
  have ai:AF w w6:=ah.below ag (fun _ h=>zE h) ag.size
  have ao:=ah.size
  refine Aj<|Ab _ [0,2,3,0,0] Z<|Ad 1 Z<|AJ (p:=zP w2.heap.size) (.inr Z) [zI<|(ex.kids.getD k Ex.zero).kind,zI<|(ex.kids.getD k Ex.zero).num,zI<|(ex.kids.getD k Ex.zero).pick,zI<|(ex.kids.getD k Ex.zero).count,a0] Bx Z (fun ax a7=>LD.of_box<|BX.ext (w:=w6) a9 a7) Z Aa<|Am 157 [] [] [.agg #[zI<|(ex.kids.getD k Ex.zero).kind,zI<|(ex.kids.getD k Ex.zero).num,zI<|(ex.kids.getD k Ex.zero).pick,zI<|(ex.kids.getD k Ex.zero).count,a0]] Z Z Sg Aa (ih dd4 oM _ a0 (ex.kids.getD k Ex.zero) (a5.ext ai) oM) ?_
  rintro e7 w7 ⟨rfl,aa⟩
  refine⟨_,rfl,aa,?_⟩
  have ap:=aa.size
  have aq:=ai.trans aa
  refine AQ ((sz+(ex.kids.getD k Ex.zero).size:Nat):Int) Z Z (Be oM oM) Aa<|Ac 1 Z<|Ab _ [0,0] Z<|AQ ((k+1:Nat):Int) Z Z (Be oM sD) Aa<|Ac 1 Z ?_
  exact⟨(k+1,sz+(ex.kids.getD k Ex.zero).size),_,rfl,zR,⟨aq,sD,oM⟩,zD⟩
 exact AE false Z Z (A6 ae) Aa<|Aj<|A0<|Ai Z<|A4<|Ay<|Ay<|At<|ZN [0,0] Z<|Ac 2 Z<|A1<|Af [2] Z (zI (sz:Int)) Z ⟨AS (by rw[hsz,Jr oM,hsk]),a1⟩
theorem JK (w:World)(dex:Nat)(ve:Value)(ex:Ex)(hex:RX [] dex w.heap ve ex)(hs:ex.size≤1000000000) :
  Calls Tryz.prog 194 #[(.agg #[(zI ex.kind),(zI ex.num),(zI ex.pick),(zI ex.count),ve])] w (fun e w'=>e=.returned (zI (ex.deep:Int))∧AF w w'):=by
 induction dex using Nat.strongRecOn generalizing w ve ex
 rename_i dex ih
 refine As [.agg #[zI ex.kind,zI ex.num,zI ex.pick,zI ex.count,ve]] 20 Tryz.func194 Z Z sM ?_
 have ab:AF w w:=AF.refl w
 have aw:=hex.rn.lenle
 unfold maxLen at aw
 have hsk:=Cd ex
 have hdk:=D7 ex
 refine ZN [3,0] Z (Bj (cs:=#[zI ex.kind,zI ex.num,zI ex.pick,zI ex.count,ve]) Z Aa fun w1 a2 aj a3=>?_)
 have a4:=a2.size
 have ac:=ab.trans a2
 replace a3:BX w1.heap w.heap.size [zI ex.kind,zI ex.num,zI ex.pick,zI ex.count,ve]:=a3
 refine Ac 1 Z<|ZO Z<|A0<|ZN [0,2,0,0] Z<|Ak (p:=zP w.heap.size) 4 B8 Z Z Aa<|Ae (p:=An (zP w.heap.size) 4) (.inr Z) ve Ba Z (a3.ldp (i:=4) sM) Aa<|AP (v:=ve) CB Z hex.rn.isSl Aa<|Ac 1 Z<|A3 ?_
 refine AT (S:=Nat×Nat) (fun⟨k,sz⟩=>([(3,zI (sz:Int)),(9,zI (k:Int)),(7,ve),(8,zI (ex.kids.length:Int))])) (fun⟨k,sz⟩ W=>AF w W∧k≤ex.kids.length∧sz=Ex.deeps (ex.kids.take k)) (fun⟨k,sz⟩=>ex.kids.length-k) (0,0) ⟨rfl,rfl,rfl,rfl,trivial⟩ ⟨ac,sD,(by rw[List.take_zero,Me])⟩ ?_
 clear ab aj a2 a4 ac
 rintro⟨k,sz⟩ ρ2 w2 ⟨a1,ad,hsz⟩
 have ak:w.heap.size≤w2.heap.size:=a1.size
 refine ZN [0] Z ?_
 by_cases ae:(k:Int)<(ex.kids.length:Int)
 ·refine AE true Z Z (A5 ae) Aa<|Aj<|A0<|Ah Z<|A2<|A0<|A3<|ZN [0,2,3,4] Z ?_
  have hst:=CW (l:=ex.kids) (k:=k) oM
  have hle:=CF ex.kids (k+1)
  have hdt:=GH (l:=ex.kids) (k:=k) oM
  have hda:=Eh<|ex.kids.getD k Ex.zero
  refine Au (v:=ve) k CB Bf Z Z hex.rn.isSl Z sD Aa ?_
  obtain⟨cs4,al,am⟩:=hex.rn.get (Aq dex) Ex.zero (k:=k) sD
  obtain⟨dd4,a0,ar,rfl,a5⟩:=RX.of al
  have a6:=a5.rn.lenle
  unfold maxLen at a6
  refine AJ (p:=Aw ve k 5) (.inr Z) [zI<|(ex.kids.getD k Ex.zero).kind,zI<|(ex.kids.getD k Ex.zero).num,zI<|(ex.kids.getD k Ex.zero).pick,zI<|(ex.kids.getD k Ex.zero).count,a0] Bx Z (fun ax a7=>am ax<|AA.of_ext []<|a1.trans a7) Z Aa (Br (z:=.agg #[zI 0,zI 0,zI 0,zI 0,zN]) K9 Aa fun w5 af au a8=>?_)
  have an:=af.size
  have ag:=a1.trans af
  replace a8:BX w5.heap w2.heap.size [zI 0,zI 0,zI 0,zI 0,zN]:=a8
  refine Ce (vs:=[zI<|(ex.kids.getD k Ex.zero).kind,zI<|(ex.kids.getD k Ex.zero).num,zI<|(ex.kids.getD k Ex.zero).pick,zI<|(ex.kids.getD k Ex.zero).count,a0]) Bx Z Z a5.ones a8 Z Z Aa fun w6 ah av a9=>?_
  replace a9:BX w6.heap w2.heap.size [zI ((ex.kids.getD k Ex.zero).kind),zI ((ex.kids.getD k Ex.zero).num),zI ((ex.kids.getD k Ex.zero).pick),zI ((ex.kids.getD k Ex.zero).count),a0]:=a9
  have ai:AF w w6:=ah.below ag (fun _ h=>zE h) ag.size
  have ao:=ah.size
  refine Aj<|Ab _ [0,2,3,0,0] Z<|Ad 1 Z<|AJ (p:=zP w2.heap.size) (.inr Z) [zI<|(ex.kids.getD k Ex.zero).kind,zI<|(ex.kids.getD k Ex.zero).num,zI<|(ex.kids.getD k Ex.zero).pick,zI<|(ex.kids.getD k Ex.zero).count,a0] Bx Z (fun ax a7=>LD.of_box<|BX.ext (w:=w6) a9 a7) Z Aa<|Am 194 [] [] [.agg #[zI<|(ex.kids.getD k Ex.zero).kind,zI<|(ex.kids.getD k Ex.zero).num,zI<|(ex.kids.getD k Ex.zero).pick,zI<|(ex.kids.getD k Ex.zero).count,a0]] Z Z UL Aa (ih dd4 oM _ a0 (ex.kids.getD k Ex.zero) (a5.ext ai) oM) ?_
  rintro e7 w7 ⟨rfl,aa⟩
  refine⟨_,rfl,aa,?_⟩
  have ap:=aa.size
  have aq:=ai.trans aa
  refine X6 ((max sz ((ex.kids.getD k Ex.zero).deep):Nat):Int) oM Z Z Aa<|Ac 1 Z<|Ab _ [0,0] Z<|AQ ((k+1:Nat):Int) Z Z (Be oM sD) Aa<|Ac 1 Z ?_
  exact⟨(k+1,max sz ((ex.kids.getD k Ex.zero).deep)),_,rfl,zR,⟨aq,sD,oM⟩,zD⟩
 refine AE false Z Z (A6 ae) Aa<|Aj<|A0<|Ai Z<|A4<|Ay<|Ay<|At<|ZN [0,0,0] Z ?_
 have h8:=Js (l:=ex.kids) (k:=k) oM
 have h9:=Eh ex
 exact Ad 1 Z<|AQ ((sz+1:Nat):Int) Z Z (Be oM oM) Aa<|Ac 1 Z<|A1<|Af [2] Z (zI ((sz+1:Nat):Int)) Z ⟨AS (by rw[hsz,Js oM,hdk]),a1⟩
theorem UY {b:Bool}(h:(!b)=false):b=true:=by cases b <;> simp_all
theorem YD {b:Bool}(h:(!b)=true):b=false:=by cases b <;> simp_all
theorem VT {p:List Fn}{funcs vars:Int}{e:Ex}{b:Bool}(h:e.kids.length=0∨b=false)(hb:Ju p funcs vars e=b):Ending.returned (.bool b)=.returned (.bool (wf p funcs e vars)):=by
  rcases h with h|h
  · rw[Tj h,hb]
  · subst h;rw[← R2 hb]
theorem C2 {p:Prop}(h:p:=by first|exact AL (Pk hwn fun j hj=>hall j oM)|exact AL (R3 (k:=k) oM (by first|(rw[if_pos oM])|(rw[if_neg oM])) (YD ‹_›))|exact VT (by first|exact .inr Z|(left;omega)|(left;simp_all <;> omega)) (by(have hp9:=hpl.symm;clear hpl;unfold Ju GA;first|(simp[*];done)|(simp[*];omega)|(simp[*] <;> intros <;> omega)|(simp_all <;> omega)))):p:=h
theorem Ir {p:Prop}(h:p:=by(have hp9:=hpl.symm;clear hpl;unfold Ju GA;first|(simp[*];done)|(simp[*];omega)|(simp[*] <;> intros <;> omega)|(simp_all <;> omega))):p:=h
theorem OV {p:Prop}(h:p:=by intro j hj;by_cases e9:j=k;(rw[e9];first|(rw[if_pos oM];exact UY ‹_›)|(rw[if_neg oM];exact UY ‹_›));exact hall j oM):p:=h
theorem SB {p:Prop}(h:p:=by unfold EQ;first|(simp[*];done)|(simp[*];intros;omega)|(simp[*];omega)):p:=h
theorem Is {p:Prop}(h:p:=by first|exact(A5 oM).symm|exact decide_eq_decide.2 oM):p:=h
theorem Gy (w:World)(dp:Nat)(vp:Value)(p:List Fn)(funcs:Int)(dex:Nat)(ve:Value)(ex:Ex)(vars:Int)(hp:RP [] dp w.heap vp p)(_hfuncs:Bk funcs)(hex:RX [] dex w.heap ve ex)(_hvars:Bk vars)(hs:0≤vars∧vars+(ex.deep:Int)≤2000000000)(hf:0≤funcs∧funcs≤(p.length:Int)) :
  Calls Tryz.prog 195 #[(.agg #[vp,(zI funcs)]),(.agg #[(zI ex.kind),(zI ex.num),(zI ex.pick),(zI ex.count),ve]),zI vars] w (fun e w'=>e=.returned (.bool (wf p funcs ex vars))∧AF w w'):=by
 induction dex using Nat.strongRecOn generalizing w dp vp p funcs ve ex vars
 rename_i dex ih
 refine As [.agg #[vp,zI funcs],.agg #[zI ex.kind,zI ex.num,zI ex.pick,zI ex.count,ve],zI vars] 177 Tryz.func195 Z Z sM ?_
 have d2:AF w w:=AF.refl w
 have ec:=hp.lenle
 unfold maxLen at ec
 have ed:=hex.rn.lenle
 unfold maxLen at ed
 have hdk:=D7 ex
 refine ZN [3,3,0] Z (Bj (cs:=#[vp,zI funcs]) Z Aa fun w1 cq df co=>?_)
 have cr:=cq.size
 have d3:=d2.trans cq
 replace co:BX w1.heap w.heap.size [vp,zI funcs]:=co
 have e5:=co.lt
 refine Bj (cs:=#[zI ex.kind,zI ex.num,zI ex.pick,zI ex.count,ve]) Z Aa fun w2 cp dg bc=>?_
 have ct:=cp.size
 have cu:=d3.trans cp
 have bb:=co.ext cp
 replace bc:BX w2.heap w1.heap.size [zI ex.kind,zI ex.num,zI ex.pick,zI ex.count,ve]:=bc
 refine Ac 1 Z<|ZN [0,2,0,0] Z<|Ak (p:=zP w1.heap.size) 4 B8 Z Z Aa<|Ae (p:=An (zP w1.heap.size) 4) (.inr Z) ve Ba Z (bc.ldp (i:=4) sM) Aa<|AP (v:=ve) CB Z hex.rn.isSl Aa<|Ac 1 Z<|A0<|Pa (S:=Bool) (fun(pl:Bool)=>([(8,.bool pl),(2,zI vars),(3,zP w.heap.size),(4,zP w1.heap.size),(7,zI (ex.kids.length:Int))])) (fun(pl:Bool) (W:World)=>AF w W∧BX W.heap w.heap.size [vp,zI funcs]∧BX W.heap w1.heap.size [zI ex.kind,zI ex.num,zI ex.pick,zI ex.count,ve]∧pl=EQ ex) ?_ ?_
 ·refine Ab _ [0,2,0,0,0,2,0,0,0] Z<|Ak (p:=zP w1.heap.size) 2 Cn Z Z Aa<|Ae (p:=An (zP w1.heap.size) 2) (.inr Z) (zI ex.pick) AC Z (bc.ldp (i:=2) sM) Aa ?_
  by_cases d4:ex.pick=((0:Nat):Int)
  ·exact Ap true Z Z (A5 d4) Aa<|Ad 1 Z<|Ak (p:=zP w1.heap.size) 3 CC Z Z (Ag (e:=19) Z Z Z)<|Ae (p:=An (zP w1.heap.size) 3) (.inr Z) (zI ex.count) AC Z (bc.ldp (i:=3) sM) (Ag (e:=19) Z Z Z)<|Ap (decide (ex.count=((0:Nat):Int))) Z Z Z (Ag (e:=19) Z Z Z)<|Ac 2 Z ⟨decide (ex.count=((0:Nat):Int)),_,rfl,zR,⟨cu,bb,bc,SB⟩⟩
  exact Ap false Z Z (A6 d4) Aa<|Ac 6 Z ⟨false,_,rfl,zR,⟨cu,bb,bc,SB⟩⟩
 clear d2 df cq cr d3 dg cp ct cu
 rintro pl ρ4 w4 ⟨ag,a4,a1,hpl⟩
 have bf:w.heap.size≤w4.heap.size:=ag.size
 have e6:=a4.lt
 have e7:=a1.lt
 refine A0<|Pa (S:=Unit) (fun(u:Unit)=>([(2,zI vars),(3,zP w.heap.size),(4,zP w1.heap.size)])) (fun(u:Unit) (W:World)=>AF w W∧BX W.heap w.heap.size [vp,zI funcs]∧BX W.heap w1.heap.size [zI ex.kind,zI ex.num,zI ex.pick,zI ex.count,ve]∧Ju p funcs vars ex=true) ?_ ?_
 ·refine ZN [0,2] Z<|Ak (p:=zP w1.heap.size) 0 BC Z Z Aa<|Ae (p:=An (zP w1.heap.size) 0) (.inr Z) (zI ex.kind) AC Z (a1.ldp (i:=0) sM) Aa<|Aj<|A3<|ZN [0,0] Z ?_
  by_cases d5:ex.kind=((1:Nat):Int)
  ·refine Ap true Z Z (A5 d5) Aa<|Ac 1 Z<|Ah Z<|ZN [0,0,0,0,0,0,0,2,0,0,0] Z<|Ad 2 Z ?_
   cases dh:pl
   ·exact Ac 9 Z<|A1<|AH<|Ao<|Af [6] Z (.bool false) Z ⟨C2,ag⟩
   refine Ad 1 Z ?_
   by_cases bg:(ex.kids.length:Int)=((0:Nat):Int)
   ·refine Ap true Z Z (A5 bg) (Ag (e:=29) Z Z Z)<|Ad 2 Z<|Ak (p:=zP w1.heap.size) 1 Bw Z Z (Ag (e:=33) Z Z Z)<|Ae (p:=An (zP w1.heap.size) 1) (.inr Z) (zI ex.num) AC Z (a1.ldp (i:=1) sM) (Ag (e:=33) Z Z Z)<|AB 117 [] [] [zI ex.num] Z Z Sf (Ag (e:=33) Z Z Z) (.bool<|HZ ex.num) (fun wq=>ET wq _ hex.rng.num)<|Ac 2 Z<|A1<|AH<|Ao ?_
    exact Af [6] Z (.bool<|HZ ex.num) Z ⟨C2,ag⟩
   exact Ap false Z Z (A6 bg) (Ag (e:=29) Z Z Z)<|Ac 7 Z<|A1<|AH<|Ao<|Af [6] Z (.bool false) Z ⟨C2,ag⟩
  refine Ap false Z Z (A6 d5) Aa<|Ac 1 Z<|Ai Z<|ZN [0,0] Z ?_
  by_cases bh:ex.kind=((2:Nat):Int)
  ·refine Ap true Z Z (A5 bh) Aa<|Ac 1 Z<|Ah Z<|ZN [0,0,0,0,0,0,0,2,0,0,0,0,0] Z<|Ad 2 Z ?_
   cases di:pl
   ·exact Ac 11 Z<|A1<|AH<|Ao<|Af [6] Z (.bool false) Z ⟨C2,ag⟩
   refine Ad 1 Z ?_
   by_cases bi:(ex.kids.length:Int)=((0:Nat):Int)
   ·refine Ap true Z Z (A5 bi) (Ag (e:=41) Z Z Z)<|Ad 2 Z<|Ak (p:=zP w1.heap.size) 1 Bw Z Z (Ag (e:=45) Z Z Z)<|Ae (p:=An (zP w1.heap.size) 1) (.inr Z) (zI ex.num) AC Z (a1.ldp (i:=1) sM) (Ag (e:=45) Z Z Z)<|Ad 1 Z<|Bi (vars-1) Z Z (CT oM oM) (Ag (e:=45) Z Z Z)<|AB 66 [] [] [zI ex.num,zI ((0:Nat):Int),zI (vars-1)] Z Z EL (Ag (e:=45) Z Z Z) (.bool (decide (((0:Nat):Int)≤ex.num) && decide (ex.num≤(vars-1)))) (fun wq=>B4 wq _ _ _ hex.rng.num oM oM)<|Ac 2 Z<|A1<|AH ?_
    exact Ao<|Af [6] Z (.bool (decide (((0:Nat):Int)≤ex.num) && decide (ex.num≤(vars-1)))) Z ⟨C2,ag⟩
   exact Ap false Z Z (A6 bi) (Ag (e:=41) Z Z Z)<|Ac 9 Z<|A1<|AH<|Ao<|Af [6] Z (.bool false) Z ⟨C2,ag⟩
  refine Ap false Z Z (A6 bh) Aa<|Ac 1 Z<|Ai Z<|A0<|Pa (S:=Bool) (fun(b5:Bool)=>([(52,.bool b5),(2,zI vars),(3,zP w.heap.size),(4,zP w1.heap.size),(7,zI (ex.kids.length:Int)),(8,.bool pl),(25,zI ex.kind)])) (fun(b5:Bool) (W:World)=>AF w W∧BX W.heap w.heap.size [vp,zI funcs]∧BX W.heap w1.heap.size [zI ex.kind,zI ex.num,zI ex.pick,zI ex.count,ve]∧b5=decide (ex.kind=3∨ex.kind=4∨ex.kind=5∨ex.kind=6∨ex.kind=9)) ?_ ?_
  ·refine ZN [0,0] Z ?_
   by_cases bj:ex.kind=((3:Nat):Int)
   ·exact Ap true Z Z (A5 bj) Aa<|Ac 1 Z<|Ah Z<|A2 ⟨true,_,rfl,zR,⟨ag,a4,a1,Is⟩⟩
   refine Ap false Z Z (A6 bj) Aa<|Ac 1 Z<|Ai Z<|ZN [0,0] Z ?_
   by_cases bk:ex.kind=((4:Nat):Int)
   ·exact Ap true Z Z (A5 bk) Aa<|Ac 1 Z<|Ah Z<|A2 ⟨true,_,rfl,zR,⟨ag,a4,a1,Is⟩⟩
   refine Ap false Z Z (A6 bk) Aa<|Ac 1 Z<|Ai Z<|ZN [0,0] Z ?_
   by_cases bl:ex.kind=((5:Nat):Int)
   ·exact Ap true Z Z (A5 bl) Aa<|Ac 1 Z<|Ah Z<|A2 ⟨true,_,rfl,zR,⟨ag,a4,a1,Is⟩⟩
   refine Ap false Z Z (A6 bl) Aa<|Ac 1 Z<|Ai Z<|ZN [0,0] Z ?_
   by_cases bm:ex.kind=((6:Nat):Int)
   ·exact Ap true Z Z (A5 bm) Aa<|Ac 1 Z<|Ah Z<|A2 ⟨true,_,rfl,zR,⟨ag,a4,a1,Is⟩⟩
   exact Ap false Z Z (A6 bm) Aa<|Ac 1 Z<|Ai Z<|Ab _ [0,0] Z<|Ap (decide (ex.kind=((9:Nat):Int))) Z Z Z Aa<|Ac 1 Z ⟨decide (ex.kind=((9:Nat):Int)),_,rfl,zR,⟨ag,a4,a1,Is⟩⟩
  clear a1 a4 ag bf
  rintro b5 ρ17 ef ⟨a2,a3,a0,h5b⟩
  have bn:w.heap.size≤ef.heap.size:=a2.size
  have dj:=a3.lt
  have dk:=a0.lt
  cases bo:b5
  ·refine Ai (by first|rfl|exact zW bo)<|ZN [0,0] Z ?_
   have h5n:=of_decide_eq_false (h5b.symm.trans ‹_›)
   clear h5b
   by_cases bp:ex.kind=((7:Nat):Int)
   ·refine Ap true Z Z (A5 bp) Aa<|Ac 1 Z<|Ah Z<|ZN [0,0,0,0,2,0,0,0,0,0,0] Z<|Ad 1 Z<|Bd (!pl) Z Z Aa<|Ad 1 Z ?_
    cases dl:(!pl)
    ·refine Ak (p:=zP w1.heap.size) 1 Bw Z Z (Ag (e:=73) Z Z Z)<|Ae (p:=An (zP w1.heap.size) 1) (.inr Z) (zI ex.num) AC Z (a0.ldp (i:=1) sM) (Ag (e:=73) Z Z Z) ?_
     by_cases bq:ex.num≠((0:Nat):Int)
     ·exact AU true Z Z (A5 bq) (Ag (e:=73) Z Z Z)<|Ac 5 Z<|Ah Z<|ZO Z<|A1<|AH<|Ao<|Af [6] Z (.bool false) Z ⟨C2,a2⟩
     refine AU false Z Z (A6 bq) (Ag (e:=73) Z Z Z)<|Ad 3 Z ?_
     by_cases br:(ex.kids.length:Int)≠((1:Nat):Int)
     ·exact AU true Z Z (A5 br) (Ag (e:=78) Z Z Z)<|Ac 1 Z<|Ah Z<|ZO Z<|A1<|AH<|Ao<|Af [6] Z (.bool false) Z ⟨C2,a2⟩
     exact AU false Z Z (A6 br) (Ag (e:=78) Z Z Z)<|Ac 1 Z<|Ai Z<|A2 ⟨(),_,rfl,zR,⟨a2,a3,a0,Ir⟩⟩
    exact Ac 8 Z<|Ah Z<|ZO Z<|A1<|AH<|Ao<|Af [6] Z (.bool false) Z ⟨C2,a2⟩
   refine Ap false Z Z (A6 bp) Aa<|Ac 1 Z<|Ai Z<|ZN [0,0] Z ?_
   by_cases bs:ex.kind=((8:Nat):Int)
   ·refine Ap true Z Z (A5 bs) Aa<|Ac 1 Z<|Ah Z<|ZN [0,0,0,0,2,0,0,0,0,0,0] Z<|Ad 1 Z<|Bd (!pl) Z Z Aa<|Ad 1 Z ?_
    cases dm:(!pl)
    ·refine Ak (p:=zP w1.heap.size) 1 Bw Z Z (Ag (e:=86) Z Z Z)<|Ae (p:=An (zP w1.heap.size) 1) (.inr Z) (zI ex.num) AC Z (a0.ldp (i:=1) sM) (Ag (e:=86) Z Z Z) ?_
     by_cases bt:ex.num≠((0:Nat):Int)
     ·exact AU true Z Z (A5 bt) (Ag (e:=86) Z Z Z)<|Ac 5 Z<|Ah Z<|ZO Z<|A1<|AH<|Ao<|Af [6] Z (.bool false) Z ⟨C2,a2⟩
     refine AU false Z Z (A6 bt) (Ag (e:=86) Z Z Z)<|Ad 3 Z ?_
     by_cases bu:(ex.kids.length:Int)≠((3:Nat):Int)
     ·exact AU true Z Z (A5 bu) (Ag (e:=91) Z Z Z)<|Ac 1 Z<|Ah Z<|ZO Z<|A1<|AH<|Ao<|Af [6] Z (.bool false) Z ⟨C2,a2⟩
     exact AU false Z Z (A6 bu) (Ag (e:=91) Z Z Z)<|Ac 1 Z<|Ai Z<|A2 ⟨(),_,rfl,zR,⟨a2,a3,a0,Ir⟩⟩
    exact Ac 8 Z<|Ah Z<|ZO Z<|A1<|AH<|Ao<|Af [6] Z (.bool false) Z ⟨C2,a2⟩
   refine Ap false Z Z (A6 bs) Aa<|Ac 1 Z<|Ai Z<|A0<|Pa (S:=Bool) (fun(b10:Bool)=>([(95,.bool b10),(2,zI vars),(3,zP w.heap.size),(4,zP w1.heap.size),(7,zI (ex.kids.length:Int))])) (fun(b10:Bool) (W:World)=>AF w W∧BX W.heap w.heap.size [vp,zI funcs]∧BX W.heap w1.heap.size [zI ex.kind,zI ex.num,zI ex.pick,zI ex.count,ve]∧b10=decide (ex.kind=10∨ex.kind=11)) ?_ ?_
   ·refine ZN [0,0] Z ?_
    by_cases bv:ex.kind=((10:Nat):Int)
    ·exact Ap true Z Z (A5 bv) Aa<|Ac 1 Z<|Ah Z<|A2 ⟨true,_,rfl,zR,⟨a2,a3,a0,Is⟩⟩
    exact Ap false Z Z (A6 bv) Aa<|Ac 1 Z<|Ai Z<|Ab _ [0,0] Z<|Ap (decide (ex.kind=((11:Nat):Int))) Z Z Z Aa<|Ac 1 Z ⟨decide (ex.kind=((11:Nat):Int)),_,rfl,zR,⟨a2,a3,a0,Is⟩⟩
   clear a0 a3 a2 bn
   rintro b10 ρ33 e8 ⟨an,a6,a7,h10b⟩
   have d6:w.heap.size≤e8.heap.size:=an.size
   have dn:=a6.lt
   have dq:=a7.lt
   cases bw:b10
   ·refine Ai (by first|rfl|exact zW bw)<|ZN [0] Z ?_
    have h10n:=of_decide_eq_false (h10b.symm.trans ‹_›)
    clear h10b
    exact Ac 1 Z<|A1<|AH<|Ao<|Af [6] Z (.bool false) Z ⟨C2,an⟩
   refine Ah (by first|rfl|exact zW bw)<|A0<|ZN [0,2,0,2,0,0,0] Z ?_
   have h5k:=of_decide_eq_true (h10b.symm.trans ‹_›)
   clear h10b
   refine Ak (p:=zP w1.heap.size) 1 Bw Z Z Aa<|Ae (p:=An (zP w1.heap.size) 1) (.inr Z) (zI ex.num) AC Z (a7.ldp (i:=1) sM) Aa<|Ak (p:=zP w.heap.size) 1 U6 Z Z Aa<|Ae (p:=An (zP w.heap.size) 1) (.inr Z) (zI funcs) AC Z (a6.ldp (i:=1) sM) Aa<|Bi (funcs-1) Z Z (CT oM oM) Aa<|AB 66 [] [] [zI ex.num,zI ((0:Nat):Int),zI (funcs-1)] Z Z EL Aa (.bool (decide (((0:Nat):Int)≤ex.num) && decide (ex.num≤(funcs-1)))) (fun wq=>B4 wq _ _ _ hex.rng.num oM oM) ?_
   refine Bd (!(decide (((0:Nat):Int)≤ex.num) && decide (ex.num≤(funcs-1)))) Z Z Aa<|Aj ?_
   cases bx:(!(decide (((0:Nat):Int)≤ex.num) && decide (ex.num≤(funcs-1))))
   ·refine Ai (by first|rfl|exact zW bx)<|A2<|ZN [0,0,2,0,2,0,2,3,4] Z ?_
    have hnr:0≤ex.num∧ex.num≤funcs-1:=by have h9:=‹(!(decide (((0:Nat):Int)≤ex.num) && decide (ex.num≤funcs-1)))=false›;simpa using h9
    refine Ak (p:=zP w.heap.size) 0 U5 Z Z Aa<|Ak (p:=An (zP w.heap.size) 0) (b:=w.heap.size) (o:=0) 0 BA Z Z Aa<|Ae (p:=An (An (zP w.heap.size) 0) 0) (.inr Z) vp C5 Z (a6.ldp (i:=0) sM) Aa<|Ak (p:=zP w1.heap.size) 1 Bw Z Z Aa<|Ae (p:=An (zP w1.heap.size) 1) (.inr Z) (zI ex.num) AC Z (a7.ldp (i:=1) sM) Aa ?_
    refine Au (v:=vp) ((ex.num).toNat) Fq C9 Z Z hp.isSl oM sD Aa ?_
    obtain⟨cs40,cv,cw⟩:=hp.get (Ax dp) Fn.zero (k:=(ex.num).toNat) sD
    obtain⟨aa,rfl,ao⟩:=RF.of cv
    have bz:=ao.rn.lenle
    unfold maxLen at bz
    refine AJ (p:=Aw vp ((ex.num).toNat) 3) (.inr Z) [.string<|(p.getD ((ex.num).toNat) Fn.zero).name,zI<|(p.getD ((ex.num).toNat) Fn.zero).params,aa] Hu Z (fun e9 ad=>cw e9<|AA.of_ext []<|an.trans ad) Z Aa ?_
    have dr:=a6.lt
    have ds:=a7.lt
    refine Br (z:=.agg #[.string ByteArray.empty,zI 0,zN]) U0 Aa fun eg ax dt bd=>?_
    have d7:=ax.size
    have c0:=an.trans ax
    have ai:=a6.ext ax
    have aj:=a7.ext ax
    replace bd:BX eg.heap e8.heap.size [.string ByteArray.empty,zI 0,zN]:=bd
    refine Ce (vs:=[.string<|(p.getD ((ex.num).toNat) Fn.zero).name,zI<|(p.getD ((ex.num).toNat) Fn.zero).params,aa]) Hu Z Z ao.ones bd Z Z Aa fun ee ay du ac=>?_
    replace ac:BX ee.heap e8.heap.size [.string ((p.getD ((ex.num).toNat) Fn.zero).name),zI ((p.getD ((ex.num).toNat) Fn.zero).params),aa]:=ac
    have a8:AF w ee:=ay.below c0 (fun _ h=>zE h) c0.size
    have d8:=ay.size
    have az:=ai.chg ay (zB ·)
    have a9:=aj.chg ay (zB ·)
    refine Aj<|A0<|ZN [0,0,2,0,0,0,2,0,2,0,0,0,0,0] Z<|Ad 1 Z<|Ak (p:=zP e8.heap.size) 1 Ct Z Z Aa<|Ae (p:=An (zP e8.heap.size) 1) (.inr Z) (zI<|(p.getD ((ex.num).toNat) Fn.zero).params) AC Z (ac.ldp (i:=1) sM) Aa ?_
    by_cases c1:(ex.kids.length:Int)≠(p.getD ((ex.num).toNat) Fn.zero).params
    ·exact AU true Z Z (A5 c1) Aa<|Ac 10 Z<|Ah Z<|ZO Z<|A1<|Ao<|AH<|Ao<|Af [6] Z (.bool false) Z ⟨C2,a8⟩
    refine AU false Z Z (A6 c1) Aa<|Ad 1 Z<|Ak (p:=zP w1.heap.size) 2 Cn Z Z (Ag (e:=116) Z Z Z)<|Ae (p:=An (zP w1.heap.size) 2) (.inr Z) (zI ex.pick) AC Z (a9.ldp (i:=2) sM) (Ag (e:=116) Z Z Z)<|Ak (p:=zP e8.heap.size) 2 BQ Z Z (Ag (e:=116) Z Z Z)<|Ae (p:=An (zP e8.heap.size) 2) (.inr Z) aa Ba Z (ac.ldp (i:=2) sM) (Ag (e:=116) Z Z Z)<|AP (v:=aa) CB Z ao.rn.isSl (Ag (e:=116) Z Z Z) ?_
    refine Bi (((p.getD (ex.num).toNat Fn.zero).outs.length:Int)-1) Z Z (CT oM oM) (Ag (e:=116) Z Z Z)<|AB 66 [] [] [zI ex.pick,zI ((0:Nat):Int),zI (((p.getD (ex.num).toNat Fn.zero).outs.length:Int)-1)] Z Z EL (Ag (e:=116) Z Z Z) (.bool (decide (((0:Nat):Int)≤ex.pick) && decide (ex.pick≤(((p.getD (ex.num).toNat Fn.zero).outs.length:Int)-1)))) (fun wq=>B4 wq _ _ _ hex.rng.pick oM oM)<|Bd (!(decide (((0:Nat):Int)≤ex.pick) && decide (ex.pick≤(((p.getD (ex.num).toNat Fn.zero).outs.length:Int)-1)))) Z Z (Ag (e:=116) Z Z Z)<|Ac 1 Z ?_
    cases c2:(!(decide (((0:Nat):Int)≤ex.pick) && decide (ex.pick≤(((p.getD (ex.num).toNat Fn.zero).outs.length:Int)-1))))
    ·refine Ai (by first|rfl|exact zW c2)<|A2<|ZN [0,2,0,0,0,2,0,0,0,0,2,0,0,0,2,0,0,2,0,0,0,2,0,0,0,0,0] Z<|Ak (p:=zP w1.heap.size) 0 BC Z Z Aa<|Ae (p:=An (zP w1.heap.size) 0) (.inr Z) (zI ex.kind) AC Z (a9.ldp (i:=0) sM) Aa ?_
     by_cases c3:ex.kind=((10:Nat):Int)
     ·refine Ap true Z Z (A5 c3) Aa<|Ad 1 Z<|Ak (p:=zP w1.heap.size) 3 CC Z Z (Ag (e:=129) Z Z Z)<|Ae (p:=An (zP w1.heap.size) 3) (.inr Z) (zI ex.count) AC Z (a9.ldp (i:=3) sM) (Ag (e:=129) Z Z Z) ?_
      by_cases c4:ex.count≠((0:Nat):Int)
      ·exact AU true Z Z (A5 c4) (Ag (e:=129) Z Z Z)<|Ac 20 Z<|Ah Z<|ZO Z<|A1<|AH<|Ao<|Af [6] Z (.bool false) Z ⟨C2,a8⟩
      refine AU false Z Z (A6 c4) (Ag (e:=129) Z Z Z)<|Ad 2 Z<|Ak (p:=zP w1.heap.size) 0 BC Z Z (Ag (e:=134) Z Z Z)<|Ae (p:=An (zP w1.heap.size) 0) (.inr Z) (zI ex.kind) AC Z (a9.ldp (i:=0) sM) (Ag (e:=134) Z Z Z) ?_
      by_cases c5:ex.kind=((11:Nat):Int)
      ·refine Ap true Z Z (A5 c5) (Ag (e:=134) Z Z Z)<|Ad 1 Z<|Ak (p:=zP e8.heap.size) 2 BQ Z Z (Ag (e:=138) Z Z Z)<|Ae (p:=An (zP e8.heap.size) 2) (.inr Z) aa Ba Z (ac.ldp (i:=2) sM) (Ag (e:=138) Z Z Z)<|AP (v:=aa) CB Z ao.rn.isSl (Ag (e:=138) Z Z Z)<|Ak (p:=zP e8.heap.size) 1 Ct Z Z (Ag (e:=138) Z Z Z)<|Ae (p:=An (zP e8.heap.size) 1) (.inr Z) (zI<|(p.getD ((ex.num).toNat) Fn.zero).params) AC Z (ac.ldp (i:=1) sM) (Ag (e:=138) Z Z Z) ?_
       by_cases c6:((((p.getD ((ex.num).toNat) Fn.zero).outs).length:Nat):Int)≠(p.getD ((ex.num).toNat) Fn.zero).params
       ·exact AU true Z Z (A5 c6) (Ag (e:=138) Z Z Z)<|Ac 8 Z<|Ah Z<|ZO Z<|A1<|AH<|Ao<|Af [6] Z (.bool false) Z ⟨C2,a8⟩
       refine AU false Z Z (A6 c6) (Ag (e:=138) Z Z Z)<|Ad 1 Z<|Ak (p:=zP w1.heap.size) 3 CC Z Z (Ag (e:=145) Z Z Z)<|Ae (p:=An (zP w1.heap.size) 3) (.inr Z) (zI ex.count) AC Z (a9.ldp (i:=3) sM) (Ag (e:=145) Z Z Z)<|AB 66 [] [] [zI ex.count,zI ((0:Nat):Int),zI ((8:Nat):Int)] Z Z EL (Ag (e:=145) Z Z Z) (.bool (decide (((0:Nat):Int)≤ex.count) && decide (ex.count≤((8:Nat):Int)))) (fun wq=>B4 wq _ _ _ hex.rng.count oM oM)<|Bd (!(decide (((0:Nat):Int)≤ex.count) && decide (ex.count≤((8:Nat):Int)))) Z Z (Ag (e:=145) Z Z Z) ?_
       refine Ac 3 Z ?_
       cases c7:(!(decide (((0:Nat):Int)≤ex.count) && decide (ex.count≤((8:Nat):Int))))
       ·exact Ai (by first|rfl|exact zW c7)<|A2 ⟨(),_,rfl,zR,⟨a8,az,a9,Ir⟩⟩
       exact Ah (by first|rfl|exact zW c7)<|ZO Z<|A1<|AH<|Ao<|Af [6] Z (.bool false) Z ⟨C2,a8⟩
      exact Ap false Z Z (A6 c5) (Ag (e:=134) Z Z Z)<|Ac 15 Z<|Ai Z<|A2 ⟨(),_,rfl,zR,⟨a8,az,a9,Ir⟩⟩
     refine Ap false Z Z (A6 c3) Aa<|Ad 6 Z<|Ak (p:=zP w1.heap.size) 0 BC Z Z (Ag (e:=134) Z Z Z)<|Ae (p:=An (zP w1.heap.size) 0) (.inr Z) (zI ex.kind) AC Z (a9.ldp (i:=0) sM) (Ag (e:=134) Z Z Z) ?_
     by_cases c8:ex.kind=((11:Nat):Int)
     ·refine Ap true Z Z (A5 c8) (Ag (e:=134) Z Z Z)<|Ad 1 Z<|Ak (p:=zP e8.heap.size) 2 BQ Z Z (Ag (e:=138) Z Z Z)<|Ae (p:=An (zP e8.heap.size) 2) (.inr Z) aa Ba Z (ac.ldp (i:=2) sM) (Ag (e:=138) Z Z Z)<|AP (v:=aa) CB Z ao.rn.isSl (Ag (e:=138) Z Z Z)<|Ak (p:=zP e8.heap.size) 1 Ct Z Z (Ag (e:=138) Z Z Z)<|Ae (p:=An (zP e8.heap.size) 1) (.inr Z) (zI<|(p.getD ((ex.num).toNat) Fn.zero).params) AC Z (ac.ldp (i:=1) sM) (Ag (e:=138) Z Z Z) ?_
      by_cases c9:((((p.getD ((ex.num).toNat) Fn.zero).outs).length:Nat):Int)≠(p.getD ((ex.num).toNat) Fn.zero).params
      ·exact AU true Z Z (A5 c9) (Ag (e:=138) Z Z Z)<|Ac 8 Z<|Ah Z<|ZO Z<|A1<|AH<|Ao<|Af [6] Z (.bool false) Z ⟨C2,a8⟩
      refine AU false Z Z (A6 c9) (Ag (e:=138) Z Z Z)<|Ad 1 Z<|Ak (p:=zP w1.heap.size) 3 CC Z Z (Ag (e:=145) Z Z Z)<|Ae (p:=An (zP w1.heap.size) 3) (.inr Z) (zI ex.count) AC Z (a9.ldp (i:=3) sM) (Ag (e:=145) Z Z Z)<|AB 66 [] [] [zI ex.count,zI ((0:Nat):Int),zI ((8:Nat):Int)] Z Z EL (Ag (e:=145) Z Z Z) (.bool (decide (((0:Nat):Int)≤ex.count) && decide (ex.count≤((8:Nat):Int)))) (fun wq=>B4 wq _ _ _ hex.rng.count oM oM)<|Bd (!(decide (((0:Nat):Int)≤ex.count) && decide (ex.count≤((8:Nat):Int)))) Z Z (Ag (e:=145) Z Z Z) ?_
      refine Ac 3 Z ?_
      cases ca:(!(decide (((0:Nat):Int)≤ex.count) && decide (ex.count≤((8:Nat):Int))))
      ·exact Ai (by first|rfl|exact zW ca)<|A2 ⟨(),_,rfl,zR,⟨a8,az,a9,Ir⟩⟩
      exact Ah (by first|rfl|exact zW ca)<|ZO Z<|A1<|AH<|Ao<|Af [6] Z (.bool false) Z ⟨C2,a8⟩
     exact Ap false Z Z (A6 c8) (Ag (e:=134) Z Z Z)<|Ac 15 Z<|Ai Z<|A2 ⟨(),_,rfl,zR,⟨a8,az,a9,Ir⟩⟩
    exact Ah (by first|rfl|exact zW c2)<|ZO Z<|A1<|Ao<|AH<|Ao<|Af [6] Z (.bool false) Z ⟨C2,a8⟩
   exact Ah (by first|rfl|exact zW bx)<|ZO Z<|A1<|Ao<|AH<|Ao<|Af [6] Z (.bool false) Z ⟨C2,an⟩
  refine Ah (by first|rfl|exact zW bo)<|ZN [0,0,0,0,2,0,0,0,0,0,0] Z ?_
  have h5k:=of_decide_eq_true (h5b.symm.trans ‹_›)
  clear h5b
  refine Ad 1 Z<|Bd (!pl) Z Z Aa<|Ad 1 Z ?_
  cases dv:(!pl)
  ·refine Ak (p:=zP w1.heap.size) 1 Bw Z Z (Ag (e:=60) Z Z Z)<|Ae (p:=An (zP w1.heap.size) 1) (.inr Z) (zI ex.num) AC Z (a0.ldp (i:=1) sM) (Ag (e:=60) Z Z Z) ?_
   by_cases cb:ex.num≠((0:Nat):Int)
   ·exact AU true Z Z (A5 cb) (Ag (e:=60) Z Z Z)<|Ac 5 Z<|Ah Z<|ZO Z<|A1<|AH<|Ao<|Af [6] Z (.bool false) Z ⟨C2,a2⟩
   refine AU false Z Z (A6 cb) (Ag (e:=60) Z Z Z)<|Ad 3 Z ?_
   by_cases cc:(ex.kids.length:Int)≠((2:Nat):Int)
   ·exact AU true Z Z (A5 cc) (Ag (e:=65) Z Z Z)<|Ac 1 Z<|Ah Z<|ZO Z<|A1<|AH<|Ao<|Af [6] Z (.bool false) Z ⟨C2,a2⟩
   exact AU false Z Z (A6 cc) (Ag (e:=65) Z Z Z)<|Ac 1 Z<|Ai Z<|A2 ⟨(),_,rfl,zR,⟨a2,a3,a0,Ir⟩⟩
  exact Ac 8 Z<|Ah Z<|ZO Z<|A1<|AH<|Ao<|Af [6] Z (.bool false) Z ⟨C2,a2⟩
 clear a1 a4 ag bf
 rintro u ρ8 w8 ⟨cx,ap,ah,hwn⟩
 have cy:w.heap.size≤w8.heap.size:=cx.size
 have dw:=ap.lt
 have dx:=ah.lt
 refine A0<|ZN [0,2,0,0] Z<|Ak (p:=zP w1.heap.size) 4 B8 Z Z Aa<|Ae (p:=An (zP w1.heap.size) 4) (.inr Z) ve Ba Z (ah.ldp (i:=4) sM) Aa<|AP (v:=ve) CB Z hex.rn.isSl Aa<|Ac 1 Z<|A3 ?_
 refine AT (S:=Nat) (fun k=>([(156,zI (k:Int)),(2,zI vars),(3,zP w.heap.size),(4,zP w1.heap.size),(154,ve),(155,zI (ex.kids.length:Int))])) (fun k W=>AF w W∧BX W.heap w.heap.size [vp,zI funcs]∧BX W.heap w1.heap.size [zI ex.kind,zI ex.num,zI ex.pick,zI ex.count,ve]∧k≤ex.kids.length∧(∀j,j<k→wf p funcs (ex.kids.getD j Ex.zero) (if ex.kind=9∧j=1 then vars+1 else vars)=true)) (fun k=>ex.kids.length-k) 0 ⟨rfl,rfl,rfl,rfl,rfl,rfl,trivial⟩ ⟨cx,ap,ah,sD,(by intro j hj;omega)⟩ ?_
 clear ah ap cx cy
 rintro k ρ65 eb ⟨b0,ae,af,cz,hall⟩
 have d9:w.heap.size≤eb.heap.size:=b0.size
 have dy:=ae.lt
 have dz:=af.lt
 refine ZN [0] Z ?_
 by_cases cd:(k:Int)<(ex.kids.length:Int)
 ·refine AE true Z Z (A5 cd) Aa<|Aj<|A0<|Ah Z<|A2<|A0<|A3<|ZN [0,0,2,3,0,4] Z ?_
  have hkd:=CH (l:=ex.kids) (k:=k) oM
  refine Ad 1 Z<|Au (v:=ve) k CB Bf Z Z hex.rn.isSl Z sD Aa ?_
  obtain⟨cs69,d0,d1⟩:=hex.rn.get (Aq dex) Ex.zero (k:=k) sD
  obtain⟨dd69,a5,e0,rfl,aq⟩:=RX.of d0
  have ce:=aq.rn.lenle
  unfold maxLen at ce
  refine AJ (p:=Aw ve k 5) (.inr Z) [zI<|(ex.kids.getD k Ex.zero).kind,zI<|(ex.kids.getD k Ex.zero).num,zI<|(ex.kids.getD k Ex.zero).pick,zI<|(ex.kids.getD k Ex.zero).count,a5] Bx Z (fun e9 ad=>d1 e9<|AA.of_ext []<|b0.trans ad) Z Aa ?_
  have e1:=ae.lt
  have e2:=af.lt
  refine Br (z:=.agg #[zI 0,zI 0,zI 0,zI 0,zN]) K9 Aa fun eh b1 e3 be=>?_
  have da:=b1.size
  have cf:=b0.trans b1
  have ak:=ae.ext b1
  have al:=af.ext b1
  replace be:BX eh.heap eb.heap.size [zI 0,zI 0,zI 0,zI 0,zN]:=be
  refine Ad 1 Z (Ce (vs:=[zI<|(ex.kids.getD k Ex.zero).kind,zI<|(ex.kids.getD k Ex.zero).num,zI<|(ex.kids.getD k Ex.zero).pick,zI<|(ex.kids.getD k Ex.zero).count,a5]) Bx Z Z aq.ones be Z Z Aa fun ea b2 e4 ar=>?_)
  replace ar:BX ea.heap eb.heap.size [zI ((ex.kids.getD k Ex.zero).kind),zI ((ex.kids.getD k Ex.zero).num),zI ((ex.kids.getD k Ex.zero).pick),zI ((ex.kids.getD k Ex.zero).count),a5]:=ar
  have ab:AF w ea:=b2.below cf (fun _ h=>zE h) cf.size
  have db:=b2.size
  have am:=ak.chg b2 (zB ·)
  have b3:=al.chg b2 (zB ·)
  refine Aj<|ZN [0,0] Z<|Ac 2 Z<|A0<|ZN [0,2,0,0,0,0,0] Z<|Ak (p:=zP w1.heap.size) 0 BC Z Z Aa<|Ae (p:=An (zP w1.heap.size) 0) (.inr Z) (zI ex.kind) AC Z (b3.ldp (i:=0) sM) Aa ?_
  by_cases cg:ex.kind=((9:Nat):Int)
  ·refine Ap true Z Z (A5 cg) Aa<|Ad 2 Z ?_
   by_cases ch:(k:Int)=((1:Nat):Int)
   ·refine Ap true Z Z (A5 ch) (Ag (e:=165) Z Z Z)<|Ac 1 Z<|Ah Z<|Ab _ [0,0,0] Z<|Ad 1 Z<|AQ (vars+1) Z Z (CT oM oM) Aa<|Ac 1 Z<|ZN [2,2,0,3,0] Z<|AJ (p:=zP w.heap.size) (.inr Z) [vp,zI funcs] OT Z (fun e9 ad=>LD.of_box<|BX.ext (w:=ea) am ad) Z Aa<|AJ (p:=zP eb.heap.size) (.inr Z) [zI<|(ex.kids.getD k Ex.zero).kind,zI<|(ex.kids.getD k Ex.zero).num,zI<|(ex.kids.getD k Ex.zero).pick,zI<|(ex.kids.getD k Ex.zero).count,a5] Bx Z (fun e9 ad=>LD.of_box<|BX.ext (w:=ea) ar ad) Z Aa<|Ad 1 Z ?_
    refine Am 195 [] [] [.agg #[vp,zI funcs],.agg #[zI<|(ex.kids.getD k Ex.zero).kind,zI<|(ex.kids.getD k Ex.zero).num,zI<|(ex.kids.getD k Ex.zero).pick,zI<|(ex.kids.getD k Ex.zero).count,a5],zI (vars+1)] Z Z PU Aa (ih dd69 oM _ dp vp (p) (funcs) a5 (ex.kids.getD k Ex.zero) _ (hp.ext (Al<|Ax dp) ab) _hfuncs (aq.ext ab) oM oM oM) ?_
    rintro ei ej ⟨rfl,au⟩
    refine⟨_,rfl,au,?_⟩
    have dc:=au.size
    have ci:=ab.trans au
    have b4:=am.ext au
    have b6:=b3.ext au
    refine Bd (!(wf p funcs (ex.kids.getD k Ex.zero) (vars+1))) Z Z Aa<|Aj ?_
    cases cj:(!(wf p funcs (ex.kids.getD k Ex.zero) (vars+1)))
    ·refine Ai (by first|rfl|exact zW cj)<|A2<|Ab _ [0,0] Z<|AQ ((k+1:Nat):Int) Z Z (Be oM sD) Aa<|Ac 1 Z ?_
     exact⟨k+1,_,rfl,zR,⟨ci,b4,b6,sD,OV⟩,zD⟩
    exact Ah (by first|rfl|exact zW cj)<|ZO Z<|A1<|AH<|Ao<|Ao<|AH<|Ao<|Af [6] Z (.bool false) Z ⟨C2,ci⟩
   refine Ap false Z Z (A6 ch) (Ag (e:=165) Z Z Z)<|Ac 1 Z<|Ai Z<|A2<|ZN [2,2,0,3,0] Z<|AJ (p:=zP w.heap.size) (.inr Z) [vp,zI funcs] OT Z (fun e9 ad=>LD.of_box<|BX.ext (w:=ea) am ad) Z Aa<|AJ (p:=zP eb.heap.size) (.inr Z) [zI<|(ex.kids.getD k Ex.zero).kind,zI<|(ex.kids.getD k Ex.zero).num,zI<|(ex.kids.getD k Ex.zero).pick,zI<|(ex.kids.getD k Ex.zero).count,a5] Bx Z (fun e9 ad=>LD.of_box<|BX.ext (w:=ea) ar ad) Z Aa<|Ad 1 Z ?_
   refine Am 195 [] [] [.agg #[vp,zI funcs],.agg #[zI<|(ex.kids.getD k Ex.zero).kind,zI<|(ex.kids.getD k Ex.zero).num,zI<|(ex.kids.getD k Ex.zero).pick,zI<|(ex.kids.getD k Ex.zero).count,a5],zI vars] Z Z PU Aa (ih dd69 oM _ dp vp (p) (funcs) a5 (ex.kids.getD k Ex.zero) _ (hp.ext (Al<|Ax dp) ab) _hfuncs (aq.ext ab) _hvars oM oM) ?_
   rintro ek el ⟨rfl,av⟩
   refine⟨_,rfl,av,?_⟩
   have dd:=av.size
   have ck:=ab.trans av
   have b7:=am.ext av
   have b8:=b3.ext av
   refine Bd (!(wf p funcs (ex.kids.getD k Ex.zero) vars)) Z Z Aa<|Aj ?_
   cases cl:(!(wf p funcs (ex.kids.getD k Ex.zero) vars))
   ·refine Ai (by first|rfl|exact zW cl)<|A2<|Ab _ [0,0] Z<|AQ ((k+1:Nat):Int) Z Z (Be oM sD) Aa<|Ac 1 Z ?_
    exact⟨k+1,_,rfl,zR,⟨ck,b7,b8,sD,OV⟩,zD⟩
   exact Ah (by first|rfl|exact zW cl)<|ZO Z<|A1<|AH<|Ao<|Ao<|AH<|Ao<|Af [6] Z (.bool false) Z ⟨C2,ck⟩
  refine Ap false Z Z (A6 cg) Aa<|Ac 4 Z<|Ai Z<|A2<|ZN [2,2,0,3,0] Z<|AJ (p:=zP w.heap.size) (.inr Z) [vp,zI funcs] OT Z (fun e9 ad=>LD.of_box<|BX.ext (w:=ea) am ad) Z Aa<|AJ (p:=zP eb.heap.size) (.inr Z) [zI<|(ex.kids.getD k Ex.zero).kind,zI<|(ex.kids.getD k Ex.zero).num,zI<|(ex.kids.getD k Ex.zero).pick,zI<|(ex.kids.getD k Ex.zero).count,a5] Bx Z (fun e9 ad=>LD.of_box<|BX.ext (w:=ea) ar ad) Z Aa<|Ad 1 Z ?_
  refine Am 195 [] [] [.agg #[vp,zI funcs],.agg #[zI<|(ex.kids.getD k Ex.zero).kind,zI<|(ex.kids.getD k Ex.zero).num,zI<|(ex.kids.getD k Ex.zero).pick,zI<|(ex.kids.getD k Ex.zero).count,a5],zI vars] Z Z PU Aa (ih dd69 oM _ dp vp (p) (funcs) a5 (ex.kids.getD k Ex.zero) _ (hp.ext (Al<|Ax dp) ab) _hfuncs (aq.ext ab) _hvars oM oM) ?_
  rintro em en ⟨rfl,aw⟩
  refine⟨_,rfl,aw,?_⟩
  have de:=aw.size
  have cm:=ab.trans aw
  have b9:=am.ext aw
  have ba:=b3.ext aw
  refine Bd (!(wf p funcs (ex.kids.getD k Ex.zero) vars)) Z Z Aa<|Aj ?_
  cases cn:(!(wf p funcs (ex.kids.getD k Ex.zero) vars))
  ·refine Ai (by first|rfl|exact zW cn)<|A2<|Ab _ [0,0] Z<|AQ ((k+1:Nat):Int) Z Z (Be oM sD) Aa<|Ac 1 Z ?_
   exact⟨k+1,_,rfl,zR,⟨cm,b9,ba,sD,OV⟩,zD⟩
  exact Ah (by first|rfl|exact zW cn)<|ZO Z<|A1<|AH<|Ao<|Ao<|AH<|Ao<|Af [6] Z (.bool false) Z ⟨C2,cm⟩
 exact AE false Z Z (A6 cd) Aa<|Aj<|A0<|Ai Z<|A4<|Ay<|Ay<|At<|ZO Z<|A1<|Af [6] Z (.bool true) Z ⟨C2,b0⟩
theorem OW {s:ByteArray}{k:Nat}(hk:k<s.size)(h:(Jm s k<97∨122<Jm s k)∧(k=0∨Jm s k<48∨57<Jm s k)):false=Nx s:=by
  have hc:Um s k=false:=by
    unfold Um
    rcases h with⟨h1|h1,h2|h2|h2⟩ <;> simp <;> omega
  unfold Nx
  rw[Jv hk hc,Bool.and_false]
theorem Q7 {s:ByteArray}{k:Nat}(h:(97≤Jm s k∧Jm s k≤122)∨(k≠0∧48≤Jm s k∧Jm s k≤57)):Um s k=true:=by
  unfold Um
  rcases h with h|h <;> simp <;> omega
theorem SD {s:ByteArray}{k:Nat}{b:Bool}(h:(List.range k).all (Um s)=true)(hk:k=s.size)(hb:b=(decide (1≤s.size) && decide (s.size≤12))):b=Nx s:=by
  subst hk
  unfold Nx
  rw[h,Bool.and_true,hb]
theorem Hy {p:Prop}(h:p:=by first|exact AL (OW (k:=k) oM oM)|exact AL (SD hq oM (by first|(rw[A5 (show 1≤s.size by omega),Bool.true_and];exact decide_eq_decide.2 oM)|(rw[A6 (show ¬1≤s.size by omega)];rfl)))):p:=h
theorem M3 (w:World)(s:ByteArray)  (hl:s.size≤1000000000) :
  Calls Tryz.prog 153 #[.string s] w (fun e w'=>e=.returned (.bool (Nx s))∧w'=w):=by
 refine As [.string s] 44 Tryz.func153 Z Z sM ?_
 have a3:w=w:=rfl
 refine ZO Z<|A0<|ZN [0,0,0] Z<|Ad 1 Z<|Jp (s:=s) u9 Z Aa<|Ac 1 Z<|A3 ?_
 refine AT (S:=Nat) (fun k=>([(6,zI (k:Int)),(0,.string s),(5,zI (s.size:Int))])) (fun k W=>W=w∧k≤s.size∧(List.range k).all (Um s)=true) (fun k=>s.size-k) 0 ⟨rfl,rfl,rfl,trivial⟩ ⟨a3,sD,(by rfl)⟩ ?_
 clear a3
 rintro k ρ1 w1 ⟨a0,a4,hq⟩
 refine ZN [0] Z ?_
 by_cases a5:(k:Int)<(s.size:Int)
 ·refine AE true Z Z (A5 a5) Aa<|Aj<|A0<|Ah Z<|A2<|A0<|A3<|ZN [0,0] Z<|Ac 2 Z<|ZN [0,0,0,0,0,0,0,0,0,0,0,0,0,0,0,0,0,0,0,0,0,0,0,0,0,0] Z<|Ad 2 Z<|Dd (s:=s) k u9 Z Z Z sD Aa ?_
  by_cases a6:((Jm s k:Nat):Int)<97
  ·refine AE true Z Z (A5 a6) Aa<|Ad 8 Z ?_
   by_cases a7:(k:Int)=((0:Nat):Int)
   ·exact Ap true Z Z (A5 a7) (Ag (e:=19) Z Z Z)<|Ac 13 Z<|Ah Z<|ZO Z<|A1<|AH<|Ao<|Ao<|AH<|Ao<|Af [2] Z (.bool false) Z ⟨Hy,a0⟩
   refine Ap false Z Z (A6 a7) (Ag (e:=19) Z Z Z)<|Ad 3 Z<|Dd (s:=s) k u9 Z Z Z sD (Ag (e:=22) Z Z Z) ?_
   by_cases a8:((Jm s k:Nat):Int)<48
   ·exact AE true Z Z (A5 a8) (Ag (e:=22) Z Z Z)<|Ac 8 Z<|Ah Z<|ZO Z<|A1<|AH<|Ao<|Ao<|AH<|Ao<|Af [2] Z (.bool false) Z ⟨Hy,a0⟩
   refine AE false Z Z (A6 a8) (Ag (e:=22) Z Z Z)<|Ad 4 Z<|Dd (s:=s) k u9 Z Z Z sD (Ag (e:=28) Z Z Z) ?_
   by_cases a9:57<((Jm s k:Nat):Int)
   ·exact BU true Z Z (A5 a9) (Ag (e:=28) Z Z Z)<|Ac 2 Z<|Ah Z<|ZO Z<|A1<|AH<|Ao<|Ao<|AH<|Ao<|Af [2] Z (.bool false) Z ⟨Hy,a0⟩
   refine BU false Z Z (A6 a9) (Ag (e:=28) Z Z Z)<|Ac 2 Z<|Ai Z<|A2<|Ab _ [0,0] Z<|AQ ((k+1:Nat):Int) Z Z (Be oM sD) Aa<|Ac 1 Z ?_
   exact⟨k+1,_,rfl,zR,⟨a0,sD,(by exact DS hq (Q7 oM))⟩,zD⟩
  refine AE false Z Z (A6 a6) Aa<|Ad 3 Z<|Dd (s:=s) k u9 Z Z Z sD (Ag (e:=13) Z Z Z) ?_
  by_cases aa:122<((Jm s k:Nat):Int)
  ·refine BU true Z Z (A5 aa) (Ag (e:=13) Z Z Z)<|Ad 3 Z ?_
   by_cases ab:(k:Int)=((0:Nat):Int)
   ·exact Ap true Z Z (A5 ab) (Ag (e:=19) Z Z Z)<|Ac 13 Z<|Ah Z<|ZO Z<|A1<|AH<|Ao<|Ao<|AH<|Ao<|Af [2] Z (.bool false) Z ⟨Hy,a0⟩
   refine Ap false Z Z (A6 ab) (Ag (e:=19) Z Z Z)<|Ad 3 Z<|Dd (s:=s) k u9 Z Z Z sD (Ag (e:=22) Z Z Z) ?_
   by_cases ac:((Jm s k:Nat):Int)<48
   ·exact AE true Z Z (A5 ac) (Ag (e:=22) Z Z Z)<|Ac 8 Z<|Ah Z<|ZO Z<|A1<|AH<|Ao<|Ao<|AH<|Ao<|Af [2] Z (.bool false) Z ⟨Hy,a0⟩
   refine AE false Z Z (A6 ac) (Ag (e:=22) Z Z Z)<|Ad 4 Z<|Dd (s:=s) k u9 Z Z Z sD (Ag (e:=28) Z Z Z) ?_
   by_cases a1:57<((Jm s k:Nat):Int)
   ·exact BU true Z Z (A5 a1) (Ag (e:=28) Z Z Z)<|Ac 2 Z<|Ah Z<|ZO Z<|A1<|AH<|Ao<|Ao<|AH<|Ao<|Af [2] Z (.bool false) Z ⟨Hy,a0⟩
   refine BU false Z Z (A6 a1) (Ag (e:=28) Z Z Z)<|Ac 2 Z<|Ai Z<|A2<|Ab _ [0,0] Z<|AQ ((k+1:Nat):Int) Z Z (Be oM sD) Aa<|Ac 1 Z ?_
   exact⟨k+1,_,rfl,zR,⟨a0,sD,(by exact DS hq (Q7 oM))⟩,zD⟩
  refine BU false Z Z (A6 aa) (Ag (e:=13) Z Z Z)<|Ac 17 Z<|Ai Z<|A2<|Ab _ [0,0] Z<|AQ ((k+1:Nat):Int) Z Z (Be oM sD) Aa<|Ac 1 Z ?_
  exact⟨k+1,_,rfl,zR,⟨a0,sD,(by exact DS hq (Q7 oM))⟩,zD⟩
 refine AE false Z Z (A6 a5) Aa<|Aj<|A0<|Ai Z<|A4<|Ay<|Ay<|At<|ZN [0,0,0,0,0,0,0,0,0] Z<|Ad 1 Z<|Jp (s:=s) u9 Z Aa ?_
 by_cases a2:((1:Nat):Int)≤(s.size:Int)
 ·exact CU true Z Z (A5 a2) Aa<|Ad 2 Z<|Jp (s:=s) u9 Z (Ag (e:=39) Z Z Z)<|Fw (decide ((s.size:Int)≤((12:Nat):Int))) Z Z Z (Ag (e:=39) Z Z Z)<|Ac 2 Z<|A1<|Af [2] Z (.bool<|decide ((s.size:Int)≤((12:Nat):Int))) Z ⟨Hy,a0⟩
 exact CU false Z Z (A6 a2) Aa<|Ac 6 Z<|A1<|Af [2] Z (.bool false) Z ⟨Hy,a0⟩
theorem Ha (w:World)(dx:Nat)(vo:Value)(x:Fn)(bf:Nat)(vf:Value)(f:Fn)(hx:RF [] dx w.heap vo x)(hBf:BX w.heap bf [.string f.name,zI f.params,vf])  :
  Calls Tryz.prog 155 #[(.agg #[(.string x.name),(zI x.params),vo]),zP bf] w (fun e w'=>e=.returned (.bool (Gi x.name f.name))∧AF w w'):=by
 refine As [.agg #[.string x.name,zI x.params,vo],zP bf] 9 Tryz.func155 Z Z sM ?_
 have a3:AF w w:=AF.refl w
 have a8:=hx.rn.lenle
 unfold maxLen at a8
 refine ZN [3,0] Z ?_
 have a6:=hBf.lt
 refine Bj (cs:=#[.string x.name,zI x.params,vo]) Z Aa fun w1 a1 a7 a2=>?_
 have a4:=a1.size
 have a5:=a3.trans a1
 have a0:=hBf.ext a1
 replace a2:BX w1.heap w.heap.size [.string x.name,zI x.params,vo]:=a2
 exact Ac 1 Z<|ZN [0,2,0,2,0,0] Z<|Ak (p:=zP w.heap.size) 0 G8 Z Z Aa<|Ae (p:=An (zP w.heap.size) 0) (.inr Z) (.string x.name) LU Z (a2.ldp (i:=0) sM) Aa<|Ak (p:=zP bf) 0 G8 Z Z Aa<|Ae (p:=An (zP bf) 0) (.inr Z) (.string f.name) LU Z (a0.ldp (i:=0) sM) Aa<|Oz (Gi x.name f.name) u9 Z Z Z Aa<|Ac 1 Z<|A1<|Af [3] Z (.bool<|Gi x.name f.name) Z ⟨rfl,a5⟩
theorem D6 (w:World) (da:Nat) (va:Value) (a:List Fn) (q:Nat) (qf qc:List Value) (pr:Fn→Bool) (ha:RP [] da w.heap va a) (hcf_q:((Tryz.prog.funcs[q]?).map fun fn=>(fn.name != "runtime.NumGoroutine") && fn.body.isSome) = some true) (hpr:∀ (d9:Nat) (u:Value) (x:Fn) w1,RF [] d9 w1.heap u x→AF w w1→Calls Tryz.prog q (qf++[Value.agg #[Value.string x.name,Value.int .i64 x.params,u]]++qc).toArray w1 (fun e w2=>e = .returned (.bool (pr x))∧AF w1 w2))  :
  Calls Tryz.prog 192 #[va,.func (.func q) qf.toArray qc.toArray] w (fun e w'=>e = .returned (zI (Qw pr a))∧AF w w'):=by
 refine As [va,.func (.func q) qf.toArray qc.toArray] 19 Tryz.func192 Z Z sM ?_
 have a5:AF w w:=AF.refl w
 have ag:=ha.lenle
 unfold maxLen at ag
 refine ZO Z<|A0<|ZN [0,0,0] Z<|Ad 1 Z<|AP (v:=va) Fq Z ha.isSl Aa<|Ac 1 Z<|A3 ?_
 refine AT (S:=Nat) (fun k=>([(8,zI ((k :Nat):Int)),(0,va),(1,.func (.func q) qf.toArray qc.toArray),(7,zI ((a.length :Nat):Int))])) (fun k W=>AF w W∧k≤a.length∧(∀ j,j < k→pr (a.getD j Fn.zero) = false)) (fun k=>a.length - k) 0 ⟨rfl,rfl,rfl,rfl,trivial⟩ ⟨a5,sD,(by intro j hj; omega)⟩ ?_
 clear a5
 rintro k ρ1 w1 ⟨a1,a6,hq⟩
 have aa:w.heap.size≤w1.heap.size:=a1.size
 refine ZN [0] Z ?_
 by_cases a7:((k :Nat):Int) < ((a.length :Nat):Int)
 ·
  refine AE true Z Z (A5 a7) Aa<|Aj<|A0<|Ah Z<|A2<|A0<|A3<|ZN [0,0] Z<|Ac 2 Z<|ZN [0,0,0,0,2,3] Z<|Ad 3 Z<|Au (v:=va) k Fq C9 Z Z ha.isSl Z sD Aa ?_
  obtain ⟨cs3,ab,ac⟩:=ha.get (Ax da) Fn.zero (k:=k) sD
  obtain ⟨a8,rfl,a2⟩:=RF.of ab
  have a3:=a2.rn.lenle
  unfold maxLen at a3
  refine AJ (p:=Aw va k 3) (.inr Z) [.string<|(a.getD k Fn.zero).name,zI<|(a.getD k Fn.zero).params,a8] Hu Z (fun ah ad=>ac ah<|AA.of_ext []<|a1.trans ad) Z Aa ?_
  have a0:=hpr da a8 (a.getD k Fn.zero) w1 ⟨a2.rng,a2.rn.ext (Al<|Aq da) a1⟩ a1
  refine Am q qf qc _ Z Z hcf_q Aa a0 ?_
  rintro e4 w4 ⟨rfl,a4⟩
  refine ⟨_,rfl,a4,?_⟩
  have ae:=a4.size
  have a9:=a1.trans a4
  cases af:pr (a.getD k Fn.zero)
  ·
   refine Aj<|Ai Z<|A2<|Ab _ [0,0] Z<|AQ ((k + 1 :Nat):Int) Z Z (Be oM sD) Aa<|Ac 1 Z ?_
   exact ⟨k + 1,_,rfl,zR,⟨a9,sD,(by exact Q6 hq (by assumption))⟩,by first | omega | (dsimp only; omega)⟩
  exact Aj<|Ah Z<|ZN [0,0] Z<|Ac 2 Z<|A1<|AH<|Ao<|Ao<|AH<|Ao<|Af [4] Z (zI ((k :Nat):Int)) Z ⟨AS<|Sy Fn.zero hq oM (by assumption),a9⟩
 exact AE false Z Z (A6 a7) Aa<|Aj<|A0<|Ai Z<|A4<|Ay<|Ay<|At<|ZO Z<|A1<|Af [4] Z (zI (-1)) Z ⟨AS<|UW Fn.zero hq oM,a1⟩
theorem CQ (w:World) (da:Nat) (va:Value) (a:List Fn) (q:Nat) (qf qc:List Value) (pr:Fn→Bool) (ha:RP [] da w.heap va a) (hcf_q:((Tryz.prog.funcs[q]?).map fun fn=>(fn.name != "runtime.NumGoroutine") && fn.body.isSome) = some true) (hpr:∀ (d9:Nat) (u:Value) (x:Fn) w1,RF [] d9 w1.heap u x→AF w w1→Calls Tryz.prog q (qf++[Value.agg #[Value.string x.name,Value.int .i64 x.params,u]]++qc).toArray w1 (fun e w2=>e = .returned (.bool (pr x))∧AF w1 w2))  :
  Calls Tryz.prog 154 #[va,.func (.func q) qf.toArray qc.toArray] w (fun e w'=>e = .returned (.bool (a.any pr))∧AF w w'):=by
 refine As [va,.func (.func q) qf.toArray qc.toArray] 9 Tryz.func154 Z Z sM ?_
 have a0:AF w w:=AF.refl w
 have a4:=ha.lenle
 unfold maxLen at a4
 refine ZO Z<|ZN [0,0,3,0,0] Z<|Ad 2 Z<|Am 192 [] [] [va,.func (.func q) qf.toArray qc.toArray] Z Z Yf Aa (D6 _ da va (a) q qf qc pr (ha.ext (Al<|Ax da) a0) hcf_q fun d9 u x w1 hx hw=>hpr d9 u x w1 hx<|a0.trans hw) ?_
 rintro e1 w1 ⟨rfl,a1⟩
 refine ⟨_,rfl,a1,?_⟩
 have a2:=a1.size
 have a3:=a0.trans a1
 exact CU (decide (((0 :Nat):Int)≤Qw pr a)) Z Z Z Aa<|Ac 1 Z<|A1<|Af [4] Z (.bool<|decide (((0 :Nat):Int)≤Qw pr a)) Z ⟨AL<|UX pr a,a3⟩
theorem Lu (w:World)(vars:Int)(_hvars:Bk vars)  :
  Calls Tryz.prog 193 #[zI vars] w (fun e w'=>e=.returned (.bool (GA vars 0 412))∧w'=w):=by
 refine As [zI vars] 5 Tryz.func193 Z Z sM ?_
 have a0:w=w:=rfl
 exact ZO Z<|ZN [0,0,0] Z<|Ad 1 Z<|AB 66 [] [] [zI vars,zI ((0:Nat):Int),zI ((412:Nat):Int)] Z Z EL Aa (.bool (decide (((0:Nat):Int)≤vars) && decide (vars≤((412:Nat):Int)))) (fun wq=>B4 wq _ _ _ _hvars oM oM)<|Ac 1 Z<|A1<|Af [2] Z (.bool (decide (((0:Nat):Int)≤vars) && decide (vars≤((412:Nat):Int)))) Z ⟨rfl,a0⟩
theorem Q8 {p:List Fn}{e:Ex}{vars funcs:Int}(h:(0≤vars∧vars≤412)∧(0≤funcs∧funcs≤((p.length:Nat):Int))∧e.size≤400∧e.deep≤60):wf p funcs e vars=Ml p e vars funcs:=by
  unfold Ml
  rw[Cw.2 h.1,Cw.2 h.2.1,A5 h.2.2.1,A5 h.2.2.2];rfl
theorem MA {p:List Fn}{e:Ex}{vars funcs:Int}(h:¬((0≤vars∧vars≤412)∧(0≤funcs∧funcs≤((p.length:Nat):Int))∧e.size≤400∧e.deep≤60)):false=Ml p e vars funcs:=by
  cases hh:Ml p e vars funcs with
  |false=>rfl
  |true =>
    unfold Ml at hh
    simp only[z7,decide_eq_true_eq,Cw]at hh
    exact absurd ⟨hh.1,hh.2.1,hh.2.2.1,hh.2.2.2.1⟩ h
theorem UZ {p:List Fn}{e:Ex}{vars funcs:Int}(h:wf p funcs e vars=false):false=Ml p e vars funcs:=by
  unfold Ml;rw[h];simp
theorem SE {x a b:Int}(h:GA x a b=false):¬(a≤x∧x≤b):=fun hh=>by rw[Cw.2 hh]at h;cases h
theorem Q9 {x a b:Int}(h:(decide (a≤x) && decide (x≤b))=false):¬(a≤x∧x≤b):=SE h
theorem Hz {x a b:Int}(h:(decide (a≤x) && decide (x≤b))=true):a≤x∧x≤b:=Cw.1 h
theorem Lv {p:Prop}(h:p:=by first|exact AL (UZ (by assumption))|exact AL (Q8 ⟨Cw.1 (by assumption),Hz (by assumption),zO,zO⟩)|exact AL ((by assumption:wf p funcs ex vars=true).symm.trans (Q8 ⟨Cw.1 (by assumption),Hz (by assumption),zO,zO⟩))|exact AL (MA fun hh=>SE (by assumption) hh.1)|exact AL (MA fun hh=>Q9 (by assumption) hh.2.1)|exact AL (MA oM)):p:=h
theorem JL (w:World)(dp:Nat)(vp:Value)(p:List Fn)(dex:Nat)(ve:Value)(ex:Ex)(vars:Int)(funcs:Int)(hp:RP [] dp w.heap vp p)(hex:RX [] dex w.heap ve ex)(_hvars:Bk vars)(_hfuncs:Bk funcs)(hs:ex.size≤1000000000) :
  Calls Tryz.prog 156 #[(.agg #[vp]),(.agg #[(zI ex.kind),(zI ex.num),(zI ex.pick),(zI ex.count),ve]),zI vars,zI funcs] w (fun e w'=>e=.returned (.bool (Ml p ex vars funcs))∧AF w w'):=by
 refine As [.agg #[vp],.agg #[zI ex.kind,zI ex.num,zI ex.pick,zI ex.count,ve],zI vars,zI funcs] 36 Tryz.func156 Z Z sM ?_
 have am:AF w w:=AF.refl w
 have az:=hp.lenle
 unfold maxLen at az
 have b0:=hex.rn.lenle
 unfold maxLen at b0
 refine ZN [3,3,0] Z (Bj (cs:=#[vp]) Z Aa fun w1 ai ar ac=>?_)
 have an:=ai.size
 have ao:=am.trans ai
 replace ac:BX w1.heap w.heap.size [vp]:=ac
 have au:=ac.lt
 refine Bj (cs:=#[zI ex.kind,zI ex.num,zI ex.pick,zI ex.count,ve]) Z Aa fun w2 af av ad=>?_
 have ap:=af.size
 have ae:=ao.trans af
 have a2:=ac.ext af
 replace ad:BX w2.heap w1.heap.size [zI ex.kind,zI ex.num,zI ex.pick,zI ex.count,ve]:=ad
 refine Ac 1 Z<|ZN [0,0,0,0,0,2,0,0,0,0,2,3,0,0,0,2,3,0,0,0,2,0,0,2,0,3,0,0] Z<|Ad 1 Z<|AB 193 [] [] [zI vars] Z Z Yg Aa (.bool<|GA vars 0 412) (fun wq=>Lu wq _ _hvars)<|Ad 1 Z ?_
 cases aw:(GA vars 0 412)
 ·exact Ac 25 Z<|A1<|Af [8] Z (.bool false) Z ⟨Lv,ae⟩
 refine Ad 1 Z<|Ak (p:=zP w.heap.size) 0 BA Z Z (Ag (e:=11) Z Z Z)<|Ae (p:=An (zP w.heap.size) 0) (.inr Z) vp C5 Z (a2.ldp (i:=0) sM) (Ag (e:=11) Z Z Z)<|AP (v:=vp) Fq Z hp.isSl (Ag (e:=11) Z Z Z)<|AB 66 [] [] [zI funcs,zI ((0:Nat):Int),zI (p.length:Int)] Z Z EL (Ag (e:=11) Z Z Z) (.bool (decide (((0:Nat):Int)≤funcs) && decide (funcs≤(p.length:Int)))) (fun wq=>B4 wq _ _ _ _hfuncs oM oM)<|Ad 2 Z ?_
 cases ax:(decide (((0:Nat):Int)≤funcs) && decide (funcs≤(p.length:Int)))
 ·exact Ac 18 Z<|A1<|Af [8] Z (.bool false) Z ⟨Lv,ae⟩
 refine AJ (p:=zP w1.heap.size) (.inr Z) [zI ex.kind,zI ex.num,zI ex.pick,zI ex.count,ve] Bx Z (fun b1 a4=>LD.of_box<|BX.ext (w:=w2) ad a4) Z (Ag (e:=18) Z Z Z)<|Am 157 [] [] [.agg #[zI ex.kind,zI ex.num,zI ex.pick,zI ex.count,ve]] Z Z Sg (Ag (e:=18) Z Z Z) (H4 _ dex ve (ex) (hex.ext ae) oM) ?_
 rintro e8 w8 ⟨rfl,a8⟩
 refine⟨_,rfl,a8,?_⟩
 have aq:=a8.size
 have ag:=ae.trans a8
 have a9:=a2.ext a8
 have a3:=ad.ext a8
 by_cases aj:(ex.size:Int)≤((400:Nat):Int)
 ·refine Fw true Z Z (A5 aj) (Ag (e:=18) Z Z Z)<|Ad 2 Z<|AJ (p:=zP w1.heap.size) (.inr Z) [zI ex.kind,zI ex.num,zI ex.pick,zI ex.count,ve] Bx Z (fun b1 a4=>LD.of_box<|BX.ext (w:=w8) a3 a4) Z (Ag (e:=23) Z Z Z)<|Am 194 [] [] [.agg #[zI ex.kind,zI ex.num,zI ex.pick,zI ex.count,ve]] Z Z UL (Ag (e:=23) Z Z Z) (JK _ dex ve (ex) (hex.ext ag) oM) ?_
  rintro b4 b2 ⟨rfl,a0⟩
  refine⟨_,rfl,a0,?_⟩
  have ak:=a0.size
  have a1:=ag.trans a0
  have a5:=a9.ext a0
  have a6:=a3.ext a0
  by_cases aa:(ex.deep:Int)≤((60:Nat):Int)
  ·refine Fw true Z Z (A5 aa) (Ag (e:=23) Z Z Z)<|Ad 2 Z<|AJ (p:=zP w.heap.size) (.inr Z) [vp] Df Z (fun b1 a4=>LD.of_box<|BX.ext (w:=b2) a5 a4) Z (Ag (e:=28) Z Z Z)<|Ad 1 Z ?_
   have ab:∀(vp:Value) (ay:Nat) (h12_0:Fu vp ay) (wq:World),(Instr.build 248 #[(0,.agg #[vp]),(1,zI funcs)]).run Tryz.prog wq=.ok (.agg #[vp,zI funcs]) wq:=by intro vp ay h12_0 wq;obtain⟨a12_0,b3,rfl,_⟩:=h12_0;kernel_rfl
   refine CI (ps:=#[(0,.agg #[vp]),(1,zI funcs)]) (.agg #[vp,zI funcs]) (by simp only[zc,zf,zh];rfl) (fun wq=>ab vp _ hp.isSl wq) (Ag (e:=28) Z Z Z)<|AJ (p:=zP w1.heap.size) (.inr Z) [zI ex.kind,zI ex.num,zI ex.pick,zI ex.count,ve] Bx Z (fun b1 a4=>LD.of_box<|BX.ext (w:=b2) a6 a4) Z (Ag (e:=28) Z Z Z)<|Ad 1 Z ?_
   refine Am 195 [] [] [.agg #[vp,zI funcs],.agg #[zI ex.kind,zI ex.num,zI ex.pick,zI ex.count,ve],zI vars] Z Z PU (Ag (e:=28) Z Z Z) (Gy _ dp vp (p) (funcs) dex ve (ex) _ (hp.ext (Al<|Ax dp) a1) _hfuncs (hex.ext a1) _hvars (by have h1:=Cw.1 (by assumption:GA vars 0 412=true);omega) (by have h2:=Hz (by assumption:(decide (((0:Nat):Int)≤funcs) && decide (funcs≤(p.length:Int)))=true);omega)) ?_
   rintro b5 b6 ⟨rfl,a7⟩
   refine⟨_,rfl,a7,?_⟩
   have al:=a7.size
   have ah:=a1.trans a7
   exact Ac 2 Z<|A1<|Af [8] Z (.bool<|wf p funcs ex vars) Z ⟨Lv,ah⟩
  exact Fw false Z Z (A6 aa) (Ag (e:=23) Z Z Z)<|Ac 10 Z<|A1<|Af [8] Z (.bool false) Z ⟨Lv,a1⟩
 exact Fw false Z Z (A6 aj) (Ag (e:=18) Z Z Z)<|Ac 15 Z<|A1<|Af [8] Z (.bool false) Z ⟨Lv,ag⟩
theorem SF {p:List Fn}(h:¬p.length≤16):false=H2 p:=by unfold H2;rw[A6 h];rfl
theorem It {p:List Fn}{k:Nat}(hk:k<p.length)(h:Kb p k=false):false=H2 p:=by unfold H2;rw[Jv hk h,Bool.and_false]
theorem SG {p:List Fn}{k:Nat}(hl:p.length≤16)(hk:p.length≤k)(hk2:k≤p.length)(h:(List.range k).all (Kb p)=true):true=H2 p:=by
  have:k=p.length:=by omega
  subst this;unfold H2;rw[h,A5 hl];rfl
section
variable {p:List Fn} {k:Nat}
theorem YE (h:Nx (p.getD k Fn.zero).name=false):Kb p k=false:=by unfold Kb;rw[h];rfl
theorem YF (h:(p.take k).any (fun g=>Gi g.name (p.getD k Fn.zero).name)=true):Kb p k=false:=by unfold Kb Vt;rw[h];simp
theorem YG (h:(decide (((0:Nat):Int)≤(p.getD k Fn.zero).params) && decide ((p.getD k Fn.zero).params≤((12:Nat):Int)))=false):Kb p k=false:=by
  have h':GA (p.getD k Fn.zero).params 0 12=false:=h
  unfold Kb;rw[h'];simp
theorem YH (h:(decide (((1:Nat):Int)≤(((p.getD k Fn.zero).outs.length:Nat):Int)) && decide ((((p.getD k Fn.zero).outs.length:Nat):Int)≤((12:Nat):Int)))=false):Kb p k=false:=by
  have h':GA (((p.getD k Fn.zero).outs.length:Nat):Int) 1 12=false:=h
  unfold Kb;rw[h'];simp
theorem YI {j:Nat}(hj:j<(p.getD k Fn.zero).outs.length)(h:Ml p ((p.getD k Fn.zero).outs.getD j Ex.zero) (p.getD k Fn.zero).params ((k:Nat):Int)=false):Kb p k=false:=by
  unfold Kb
  rw[Jv hj h];simp
theorem YJ (h:¬Ex.sizes (p.getD k Fn.zero).outs≤400):Kb p k=false:=by
  unfold Kb;rw[A6 h];simp
theorem V0 {j:Nat}(h1:Nx (p.getD k Fn.zero).name=true)(h2:(p.take k).any (fun g=>Gi g.name (p.getD k Fn.zero).name)=false)(h3:(decide (((0:Nat):Int)≤(p.getD k Fn.zero).params) && decide ((p.getD k Fn.zero).params≤((12:Nat):Int)))=true)(h4:(decide (((1:Nat):Int)≤(((p.getD k Fn.zero).outs.length:Nat):Int)) && decide ((((p.getD k Fn.zero).outs.length:Nat):Int)≤((12:Nat):Int)))=true)(h5:(List.range j).all (fun j=>Ml p ((p.getD k Fn.zero).outs.getD j Ex.zero) (p.getD k Fn.zero).params ((k:Nat):Int))=true)(hj:j=(p.getD k Fn.zero).outs.length)(h6:Ex.sizes (p.getD k Fn.zero).outs≤400):Kb p k=true:=by
  have h3':GA (p.getD k Fn.zero).params 0 12=true:=h3
  have h4':GA (((p.getD k Fn.zero).outs.length:Nat):Int) 1 12=true:=h4
  subst hj
  unfold Kb Vt
  rw[h1,h2,h3',h4',h5,A5 h6];rfl
end
theorem Ds {b:Bool}(h:(!b)=false):b=true:=by cases b <;> simp_all
theorem DF {b:Bool}(h:(!b)=true):b=false:=by cases b <;> simp_all
theorem HA {p:Prop}(h:p:=by first|exact AL (SF oM)|exact AL (SG oM oM oM hq)|exact AL (It (k:=k) oM (YE (DF (by assumption))))|exact AL (It (k:=k) oM (YF (by assumption)))|exact AL (It (k:=k) oM (YG (DF (by assumption))))|exact AL (It (k:=k) oM (YH (DF (by assumption))))|exact AL (It (k:=k) oM (YI (j:=j) oM (DF (by assumption))))|exact AL (It (k:=k) oM (YJ oM))):p:=h
theorem Fe (w:World)(dp:Nat)(vp:Value)(p:List Fn)(hp:RP [] dp w.heap vp p)(hz:Qj p) :
  Calls Tryz.prog 100 #[(.agg #[vp])] w (fun e w'=>e=.returned (.bool (H2 p))∧AF w w'):=by
 refine As [.agg #[vp]] 65 Tryz.func100 Z Z sM ?_
 have bq:AF w w:=AF.refl w
 have ch:=hp.lenle
 unfold maxLen at ch
 refine ZN [3,0] Z (Bj (cs:=#[vp]) Z Aa fun w1 be c0 aw=>?_)
 have bf:=be.size
 have bg:=bq.trans be
 replace aw:BX w1.heap w.heap.size [vp]:=aw
 refine Ac 1 Z<|A0<|ZN [0,2,0,0] Z<|Ak (p:=zP w.heap.size) 0 BA Z Z Aa<|Ae (p:=An (zP w.heap.size) 0) (.inr Z) vp C5 Z (aw.ldp (i:=0) sM) Aa<|AP (v:=vp) Fq Z hp.isSl Aa ?_
 by_cases br:((16:Nat):Int)<(p.length:Int)
 ·exact BU true Z Z (A5 br) Aa<|Aj<|Ah Z<|ZO Z<|A1<|Ao<|Af [2] Z (.bool false) Z ⟨HA,bg⟩
 refine BU false Z Z (A6 br) Aa<|Aj<|Ai Z<|A2<|A0<|ZN [0,2,0,0] Z<|Ak (p:=zP w.heap.size) 0 BA Z Z Aa<|Ae (p:=An (zP w.heap.size) 0) (.inr Z) vp C5 Z (aw.ldp (i:=0) sM) Aa<|AP (v:=vp) Fq Z hp.isSl Aa<|Ac 1 Z<|A3 ?_
 refine AT (S:=Nat) (fun k=>([(15,zI (k:Int)),(1,zP w.heap.size),(13,vp),(14,zI (p.length:Int))])) (fun k W=>AF w W∧BX W.heap w.heap.size [vp]∧k≤p.length∧(List.range k).all (Kb p)=true) (fun k=>p.length-k) 0 ⟨rfl,rfl,rfl,rfl,trivial⟩ ⟨bg,aw,sD,(by rfl)⟩ ?_
 clear bq c0 be bf bg
 rintro k ρ3 w3 ⟨ax,a4,bs,hq⟩
 have bh:w.heap.size≤w3.heap.size:=ax.size
 have ce:=a4.lt
 refine ZN [0] Z ?_
 by_cases bt:(k:Int)<(p.length:Int)
 ·refine AE true Z Z (A5 bt) Aa<|Aj<|A0<|Ah Z<|A2<|A0<|A3<|ZN [0,0,2,3,0,4] Z<|Ad 1 Z<|Au (v:=vp) k Fq C9 Z Z hp.isSl Z sD Aa ?_
  obtain⟨cs6,c1,c2⟩:=hp.get (Ax dp) Fn.zero (k:=k) sD
  obtain⟨ab,rfl,ap⟩:=RF.of c1
  have ay:=ap.rn.lenle
  unfold maxLen at ay
  refine AJ (p:=Aw vp k 3) (.inr Z) [.string<|(p.getD k Fn.zero).name,zI<|(p.getD k Fn.zero).params,ab] Hu Z (fun cg af=>c2 cg<|AA.of_ext []<|ax.trans af) Z Aa ?_
  have cf:=a4.lt
  refine Br (z:=.agg #[.string ByteArray.empty,zI 0,zN]) U0 Aa fun w7 bb c3 bi=>?_
  have bj:=bb.size
  have bk:=ax.trans bb
  have a5:=a4.ext bb
  replace bi:BX w7.heap w3.heap.size [.string ByteArray.empty,zI 0,zN]:=bi
  refine Ad 1 Z (Ce (vs:=[.string<|(p.getD k Fn.zero).name,zI<|(p.getD k Fn.zero).params,ab]) Hu Z Z ap.ones bi Z Z Aa fun w9 bc c4 az=>?_)
  replace az:BX w9.heap w3.heap.size [.string ((p.getD k Fn.zero).name),zI ((p.getD k Fn.zero).params),ab]:=az
  have bd:AF w w9:=bc.below bk (fun _ h=>zE h) bk.size
  have bl:=bc.size
  have aq:=a5.chg bc (zB ·)
  refine Aj<|A0<|ZN [0,2,0,0,0,0,2,0,0,0,3,0] Z ?_
  have hzk:=hz k oM
  refine Ak (p:=zP w3.heap.size) 0 G8 Z Z Aa<|Ae (p:=An (zP w3.heap.size) 0) (.inr Z) (.string<|(p.getD k Fn.zero).name) LU Z (az.ldp (i:=0) sM) Aa<|AB 153 [] [] [.string<|(p.getD k Fn.zero).name] Z Z Y0 Aa (.bool<|Nx<|(p.getD k Fn.zero).name) (fun wq=>M3 wq ((p.getD k Fn.zero).name) oM)<|Bd (!(Nx<|(p.getD k Fn.zero).name)) Z Z Aa<|Ad 1 Z ?_
  cases c5:(!(Nx ((p.getD k Fn.zero).name)))
  ·refine Ak (p:=zP w.heap.size) 0 BA Z Z (Ag (e:=24) Z Z Z)<|Ae (p:=An (zP w.heap.size) 0) (.inr Z) vp C5 Z (aq.ldp (i:=0) sM) (Ag (e:=24) Z Z Z)<|Ad 1 Z<|Ve (v:=vp) (k:=k) Fq C9 Z hp.isSl hp.capS Z sD (Ag (e:=24) Z Z Z) ?_
   have b0:=RN.pref (Ax dp) (k:=k) hp sD
   refine ME [] [zP w3.heap.size] Z Z (Ag (e:=24) Z Z Z)<|Am 154 [] [] [NI vp k,.func (.func 155) #[] #[zP w3.heap.size]] Z Z Y1 (Ag (e:=24) Z Z Z) (CQ _ dp (NI vp k) (p.take k) 155 [] [zP w3.heap.size] (fun g=>Gi g.name (p.getD k Fn.zero).name) (b0.ext (Al<|Ax dp) bd) Y2 fun d9 u x w1 hx hw=>Ha w1 d9 u x w3.heap.size ab (p.getD k Fn.zero) hx<|az.ext hw) ?_
   rintro cm cn ⟨rfl,a7⟩
   refine⟨_,rfl,a7,?_⟩
   have b1:=a7.size
   have ac:=bd.trans a7
   have a6:=aq.ext a7
   have a0:=az.ext a7
   refine Ac 1 Z ?_
   cases b2:((p.take k).any (fun g=>Gi g.name (p.getD k Fn.zero).name))
   ·refine Ai (by first|rfl|exact zW b2)<|A2<|A0<|ZN [0,2,0,0,0,0,2,0,0,0,0] Z<|Ak (p:=zP w3.heap.size) 1 Ct Z Z Aa<|Ae (p:=An (zP w3.heap.size) 1) (.inr Z) (zI<|(p.getD k Fn.zero).params) AC Z (a0.ldp (i:=1) sM) Aa<|AB 66 [] [] [zI<|(p.getD k Fn.zero).params,zI ((0:Nat):Int),zI ((12:Nat):Int)] Z Z EL Aa (.bool (decide (((0:Nat):Int)≤((p.getD k Fn.zero).params)) && decide (((p.getD k Fn.zero).params)≤((12:Nat):Int)))) (fun wq=>B4 wq _ _ _ ap.rng oM oM) ?_
    refine Bd (!(decide (((0:Nat):Int)≤((p.getD k Fn.zero).params)) && decide (((p.getD k Fn.zero).params)≤((12:Nat):Int)))) Z Z Aa<|Ad 1 Z ?_
    cases c6:(!(decide (((0:Nat):Int)≤((p.getD k Fn.zero).params)) && decide (((p.getD k Fn.zero).params)≤((12:Nat):Int))))
    ·refine Ak (p:=zP w3.heap.size) 2 BQ Z Z (Ag (e:=36) Z Z Z)<|Ae (p:=An (zP w3.heap.size) 2) (.inr Z) ab Ba Z (a0.ldp (i:=2) sM) (Ag (e:=36) Z Z Z)<|AP (v:=ab) CB Z ap.rn.isSl (Ag (e:=36) Z Z Z)<|AB 66 [] [] [zI ((((p.getD k Fn.zero).outs).length:Nat):Int),zI ((1:Nat):Int),zI ((12:Nat):Int)] Z Z EL (Ag (e:=36) Z Z Z) (.bool (decide (((1:Nat):Int)≤((((p.getD k Fn.zero).outs).length:Nat):Int)) && decide (((((p.getD k Fn.zero).outs).length:Nat):Int)≤((12:Nat):Int)))) (fun wq=>B4 wq _ _ _ oM oM oM) ?_
     refine Bd (!(decide (((1:Nat):Int)≤((((p.getD k Fn.zero).outs).length:Nat):Int)) && decide (((((p.getD k Fn.zero).outs).length:Nat):Int)≤((12:Nat):Int)))) Z Z (Ag (e:=36) Z Z Z)<|Ac 1 Z ?_
     cases b3:(!(decide (((1:Nat):Int)≤((((p.getD k Fn.zero).outs).length:Nat):Int)) && decide (((((p.getD k Fn.zero).outs).length:Nat):Int)≤((12:Nat):Int))))
     ·refine Ai (by first|rfl|exact zW b3)<|A2<|ZO Z<|A0<|ZN [0,2,0,0] Z<|Ak (p:=zP w3.heap.size) 2 BQ Z Z Aa<|Ae (p:=An (zP w3.heap.size) 2) (.inr Z) ab Ba Z (a0.ldp (i:=2) sM) Aa<|AP (v:=ab) CB Z ap.rn.isSl Aa<|Ac 1 Z<|A3 ?_
      refine AT (S:=Nat×Nat) (fun⟨j,sz⟩=>([(5,zI (sz:Int)),(46,zI (j:Int)),(1,zP w.heap.size),(3,zI (k:Int)),(4,zP w3.heap.size),(13,vp),(14,zI (p.length:Int)),(15,zI (k:Int)),(44,ab),(45,zI ((((p.getD k Fn.zero).outs).length:Nat):Int))])) (fun⟨j,sz⟩ W=>AF w W∧BX W.heap w.heap.size [vp]∧BX W.heap w3.heap.size [.string<|(p.getD k Fn.zero).name,zI<|(p.getD k Fn.zero).params,ab]∧j≤(p.getD k Fn.zero).outs.length∧sz=Ex.sizes ((p.getD k Fn.zero).outs.take j)∧(List.range j).all (fun j=>Ml p ((p.getD k Fn.zero).outs.getD j Ex.zero) (p.getD k Fn.zero).params (k:Int))=true) (fun⟨j,sz⟩=>(p.getD k Fn.zero).outs.length-j) (0,0) ⟨rfl,rfl,rfl,rfl,rfl,rfl,rfl,rfl,rfl,rfl,trivial⟩ ⟨ac,a6,a0,sD,(by rw[List.take_zero,HN]),(by rfl)⟩ ?_
      clear a4 ax bh ay c3 bb bj bk a5 c4 bc bd bl aq a7 b1 ac a6
      rintro⟨j,sz⟩ ρ20 ci ⟨ad,a1,a3,bm,hsz,hqe⟩
      have bu:w.heap.size≤ci.heap.size:=ad.size
      have c7:=a1.lt
      have c8:=a3.lt
      refine ZN [0] Z ?_
      by_cases b4:(j:Int)<((((p.getD k Fn.zero).outs).length:Nat):Int)
      ·refine AE true Z Z (A5 b4) Aa<|Aj<|A0<|Ah Z<|A2<|A0<|A3<|ZN [0,2,3,4] Z<|Au (v:=ab) j CB Bf Z Z ap.rn.isSl Z sD Aa ?_
       obtain⟨cs24,bn,bo⟩:=ap.rn.get (Aq dp) Ex.zero (k:=j) sD
       obtain⟨dd24,a2,c9,rfl,ag⟩:=RX.of bn
       have b5:=ag.rn.lenle
       unfold maxLen at b5
       refine AJ (p:=Aw ab j 5) (.inr Z) [zI<|(((p.getD k Fn.zero).outs).getD j Ex.zero).kind,zI<|(((p.getD k Fn.zero).outs).getD j Ex.zero).num,zI<|(((p.getD k Fn.zero).outs).getD j Ex.zero).pick,zI<|(((p.getD k Fn.zero).outs).getD j Ex.zero).count,a2] Bx Z (fun cg af=>bo cg<|AA.of_ext []<|ad.trans af) Z Aa ?_
       have ca:=a1.lt
       have cb:=a3.lt
       refine Br (z:=.agg #[zI 0,zI 0,zI 0,zI 0,zN]) K9 Aa fun ck ah cc ar=>?_
       have bv:=ah.size
       have b6:=ad.trans ah
       have a8:=a1.ext ah
       have a9:=a3.ext ah
       replace ar:BX ck.heap ci.heap.size [zI 0,zI 0,zI 0,zI 0,zN]:=ar
       refine Ce (vs:=[zI<|(((p.getD k Fn.zero).outs).getD j Ex.zero).kind,zI<|(((p.getD k Fn.zero).outs).getD j Ex.zero).num,zI<|(((p.getD k Fn.zero).outs).getD j Ex.zero).pick,zI<|(((p.getD k Fn.zero).outs).getD j Ex.zero).count,a2]) Bx Z Z ag.ones ar Z Z Aa fun cj ai cd aj=>?_
       replace aj:BX cj.heap ci.heap.size [zI ((((p.getD k Fn.zero).outs).getD j Ex.zero).kind),zI ((((p.getD k Fn.zero).outs).getD j Ex.zero).num),zI ((((p.getD k Fn.zero).outs).getD j Ex.zero).pick),zI ((((p.getD k Fn.zero).outs).getD j Ex.zero).count),a2]:=aj
       have au:AF w cj:=ai.below b6 (fun _ h=>zE h) b6.size
       have bw:=ai.size
       have b7:=a8.chg ai (zB ·)
       have b8:=a9.chg ai (zB ·)
       refine Aj<|A0<|ZN [2,2,0,2,0,3,0] Z ?_
       have hst:=CW (l:=(p.getD k Fn.zero).outs) (k:=j) oM
       have hle:=CF (p.getD k Fn.zero).outs (j+1)
       refine AJ (p:=zP w.heap.size) (.inr Z) [vp] Df Z (fun cg af=>LD.of_box<|BX.ext (w:=cj) b7 af) Z Aa<|AJ (p:=zP ci.heap.size) (.inr Z) [zI<|(((p.getD k Fn.zero).outs).getD j Ex.zero).kind,zI<|(((p.getD k Fn.zero).outs).getD j Ex.zero).num,zI<|(((p.getD k Fn.zero).outs).getD j Ex.zero).pick,zI<|(((p.getD k Fn.zero).outs).getD j Ex.zero).count,a2] Bx Z (fun cg af=>LD.of_box<|BX.ext (w:=cj) aj af) Z Aa<|Ak (p:=zP w3.heap.size) 1 Ct Z Z Aa<|Ae (p:=An (zP w3.heap.size) 1) (.inr Z) (zI<|(p.getD k Fn.zero).params) AC Z (b8.ldp (i:=1) sM) Aa<|Ad 1 Z ?_
       refine Am 156 [] [] [.agg #[vp],.agg #[zI<|(((p.getD k Fn.zero).outs).getD j Ex.zero).kind,zI<|(((p.getD k Fn.zero).outs).getD j Ex.zero).num,zI<|(((p.getD k Fn.zero).outs).getD j Ex.zero).pick,zI<|(((p.getD k Fn.zero).outs).getD j Ex.zero).count,a2],zI<|(p.getD k Fn.zero).params,zI (k:Int)] Z Z Y3 Aa (JL _ dp vp (p) dd24 a2 (((p.getD k Fn.zero).outs).getD j Ex.zero) _ _ (hp.ext (Al<|Ax dp) au) (ag.ext au) ap.rng oM oM) ?_
       rintro co cl ⟨rfl,aa⟩
       refine⟨_,rfl,aa,?_⟩
       have bx:=aa.size
       have av:=au.trans aa
       have ak:=b7.ext aa
       have al:=b8.ext aa
       have am:=aj.ext aa
       refine Bd (!(Ml p (((p.getD k Fn.zero).outs).getD j Ex.zero) ((p.getD k Fn.zero).params) (k:Int))) Z Z Aa<|Aj ?_
       cases b9:(!(Ml p (((p.getD k Fn.zero).outs).getD j Ex.zero) ((p.getD k Fn.zero).params) (k:Int)))
       ·refine Ai (by first|rfl|exact zW b9)<|A2<|Ab _ [0,2,3,0,0] Z<|Ad 1 Z<|AJ (p:=zP ci.heap.size) (.inr Z) [zI<|(((p.getD k Fn.zero).outs).getD j Ex.zero).kind,zI<|(((p.getD k Fn.zero).outs).getD j Ex.zero).num,zI<|(((p.getD k Fn.zero).outs).getD j Ex.zero).pick,zI<|(((p.getD k Fn.zero).outs).getD j Ex.zero).count,a2] Bx Z (fun cg af=>LD.of_box<|BX.ext (w:=cl) am af) Z Aa ?_
        refine Am 157 [] [] [.agg #[zI<|(((p.getD k Fn.zero).outs).getD j Ex.zero).kind,zI<|(((p.getD k Fn.zero).outs).getD j Ex.zero).num,zI<|(((p.getD k Fn.zero).outs).getD j Ex.zero).pick,zI<|(((p.getD k Fn.zero).outs).getD j Ex.zero).count,a2]] Z Z Sg Aa (H4 _ dd24 a2 (((p.getD k Fn.zero).outs).getD j Ex.zero) (ag.ext av) oM) ?_
        rintro cp cq ⟨rfl,ae⟩
        refine⟨_,rfl,ae,?_⟩
        have bz:=ae.size
        have bp:=av.trans ae
        have an:=ak.ext ae
        have ao:=al.ext ae
        refine AQ ((sz+((p.getD k Fn.zero).outs.getD j Ex.zero).size:Nat):Int) Z Z (Be oM oM) Aa<|Ac 1 Z<|Ab _ [0,0] Z<|AQ ((j+1:Nat):Int) Z Z (Be oM sD) Aa<|Ac 1 Z ?_
        exact⟨(j+1,sz+((p.getD k Fn.zero).outs.getD j Ex.zero).size),_,rfl,zR,⟨bp,an,ao,sD,oM,(by exact DS hqe (Ds (by assumption)))⟩,zD⟩
       refine Ah (by first|rfl|exact zW b9)<|ZO Z<|A1<|Ao<|AH<|Ao<|Ao<|AH<|Ao<|AH<|Ao<|Ao<|AH<|Ao ?_
       exact Af [2] Z (.bool false) Z ⟨HA,av⟩
      refine AE false Z Z (A6 b4) Aa<|Aj<|A0<|Ai Z<|A4<|Ay<|Ay<|At<|ZN [0,0] Z ?_
      have hal:=Jr (l:=(p.getD k Fn.zero).outs) (k:=j) oM
      refine Ad 1 Z ?_
      by_cases ba:((400:Nat):Int)<(sz:Int)
      ·exact BU true Z Z (A5 ba) Aa<|Aj<|Ah Z<|ZO Z<|A1<|AH<|Ao<|Ao<|AH<|Ao<|Af [2] Z (.bool false) Z ⟨HA,ad⟩
      refine BU false Z Z (A6 ba) Aa<|Aj<|Ai Z<|A2<|Ab _ [0,0] Z<|AQ ((k+1:Nat):Int) Z Z (Be oM sD) Aa<|Ac 1 Z ?_
      exact⟨k+1,_,rfl,zR,⟨ad,a1,sD,(by exact DS hq (V0 (Ds (by assumption)) (by assumption) (Ds (by assumption)) (Ds (by assumption)) hqe oM oM))⟩,zD⟩
     exact Ah (by first|rfl|exact zW b3)<|ZO Z<|A1<|Ao<|AH<|Ao<|Ao<|AH<|Ao<|Af [2] Z (.bool false) Z ⟨HA,ac⟩
    exact Ac 6 Z<|Ah Z<|ZO Z<|A1<|Ao<|AH<|Ao<|Ao<|AH<|Ao<|Af [2] Z (.bool false) Z ⟨HA,ac⟩
   exact Ah (by first|rfl|exact zW b2)<|ZO Z<|A1<|Ao<|AH<|Ao<|Ao<|AH<|Ao<|Af [2] Z (.bool false) Z ⟨HA,ac⟩
  exact Ac 7 Z<|Ah Z<|ZO Z<|A1<|Ao<|AH<|Ao<|Ao<|AH<|Ao<|Af [2] Z (.bool false) Z ⟨HA,bd⟩
 exact AE false Z Z (A6 bt) Aa<|Aj<|A0<|Ai Z<|A4<|Ay<|Ay<|At<|ZO Z<|A1<|Af [2] Z (.bool true) Z ⟨HA,ax⟩
theorem YK {p:List Fn}{f:Int}(h:H2 p=false):1=O0 p f:=by unfold O0;rw[h];rfl
theorem YL {p:List Fn}{f:Int}(h:H2 p=true)(h2:¬(0≤f∧f≤((p.length:Nat):Int)-1)):2=O0 p f:=by unfold O0;rw[if_pos h,if_neg h2]
theorem YM {p:List Fn}{f:Int}(h:H2 p=true)(h2:0≤f∧f≤((p.length:Nat):Int)-1):0=O0 p f:=by unfold O0;rw[if_pos h,if_pos h2]
theorem SH {p:Prop}(h:p:=by first|exact AS (YK (DF (by assumption)))|exact AS (YL (Ds (by assumption)) (Q9 (DF (by assumption))))|exact AS (YM (Ds (by assumption)) (Hz (Ds (by assumption))))):p:=h
theorem If (w:World)(dp:Nat)(vp:Value)(p:List Fn)(f:Int)(hp:RP [] dp w.heap vp p)(_hf:Bk f)(hz:Qj p) :
  Calls Tryz.prog 56 #[(.agg #[vp]),zI f] w (fun e w'=>e=.returned (zI (O0 p f))∧AF w w'):=by
 refine As [.agg #[vp],zI f] 17 Tryz.func56 Z Z sM ?_
 have a8:AF w w:=AF.refl w
 have ad:=hp.lenle
 unfold maxLen at ad
 refine ZN [3,0] Z (Bj (cs:=#[vp]) Z Aa fun w1 a4 ac a1=>?_)
 have a9:=a4.size
 have a5:=a8.trans a4
 replace a1:BX w1.heap w.heap.size [vp]:=a1
 refine Ac 1 Z<|A0<|A3<|ZN [2,3,0,0] Z<|AJ (p:=zP w.heap.size) (.inr Z) [vp] Df Z (fun ae aa=>LD.of_box<|BX.ext (w:=w1) a1 aa) Z Aa<|Am 100 [] [] [.agg #[vp]] Z Z UC Aa (Fe _ dp vp (p) (hp.ext (Al<|Ax dp) a5) hz) ?_
 rintro e2 w2 ⟨rfl,a2⟩
 refine⟨_,rfl,a2,?_⟩
 have ab:=a2.size
 have a3:=a5.trans a2
 have a0:=a1.ext a2
 refine Bd (!(H2 p)) Z Z Aa<|Ac 1 Z ?_
 cases a6:(!(H2 p))
 ·refine Ai (by first|rfl|exact zW a6)<|ZN [0,0,2,0,0,0,0,0] Z<|Ad 1 Z<|Ak (p:=zP w.heap.size) 0 BA Z Z Aa<|Ae (p:=An (zP w.heap.size) 0) (.inr Z) vp C5 Z (a0.ldp (i:=0) sM) Aa<|AP (v:=vp) Fq Z hp.isSl Aa<|Bi ((p.length:Int)-1) Z Z (CT oM oM) Aa<|AB 66 [] [] [zI f,zI ((0:Nat):Int),zI ((p.length:Int)-1)] Z Z EL Aa (.bool (decide (((0:Nat):Int)≤f) && decide (f≤((p.length:Int)-1)))) (fun wq=>B4 wq _ _ _ _hf oM oM) ?_
  refine Bd (!(decide (((0:Nat):Int)≤f) && decide (f≤((p.length:Int)-1)))) Z Z Aa<|Ac 1 Z ?_
  cases a7:(!(decide (((0:Nat):Int)≤f) && decide (f≤((p.length:Int)-1))))
  ·exact Ai (by first|rfl|exact zW a7)<|A2<|ZO Z<|A1<|Af [4] Z (zI ((0:Nat):Int)) Z ⟨SH,a3⟩
  exact Ah (by first|rfl|exact zW a7)<|ZO Z<|A1<|AH<|Ao<|Af [4] Z (zI ((2:Nat):Int)) Z ⟨SH,a3⟩
 exact Ah (by first|rfl|exact zW a6)<|ZO Z<|A1<|AH<|Ao<|Af [4] Z (zI ((1:Nat):Int)) Z ⟨SH,a3⟩
theorem ZE {p:List Fn}{f:Int}(h:O0 p f≠0):Pw p f=false:=by
  unfold O0 at h
  unfold Pw
  by_cases h1:H2 p=true
  · rw[if_pos h1]at h
    cases h2:MS p f with
    |false=>rw[Bool.and_false]
    |true=>rw[if_pos (Kt.1 h2).1]at h;exact absurd Z h
  · rw[show H2 p=false from by simpa using h1];rfl
theorem YN {p:List Fn}{f:Int}(h:O0 p f=0){b:Bool}(hb:b=(decide (1≤(p.getD f.toNat Fn.zero).params) && decide ((((p.getD f.toNat Fn.zero).outs.length:Nat):Int)=(p.getD f.toNat Fn.zero).params))):Pw p f=b:=by
  obtain⟨h1,h2⟩:=Uq h
  unfold Pw MS
  rw[h1,show GA f 0 (((p.length:Nat):Int)-1)=true from Cw.2 ⟨h2.1,zO⟩,hb,Bool.true_and,Bool.true_and]
theorem OX {p:Prop}(h:p:=by first|exact AL (ZE oM).symm|exact AL (YN oM (by rw[A5 (show 1≤(p.getD f.toNat Fn.zero).params by omega),Bool.true_and])).symm|exact AL (YN oM (by rw[A6 (show ¬1≤(p.getD f.toNat Fn.zero).params by omega),Bool.false_and])).symm):p:=h
theorem Ji (w:World)(dp:Nat)(vp:Value)(p:List Fn)(f:Int)(hp:RP [] dp w.heap vp p)(_hf:Bk f)(hz:Qj p) :
  Calls Tryz.prog 136 #[(.agg #[vp]),zI f] w (fun e w'=>e=.returned (.bool (Pw p f))∧AF w w'):=by
 refine As [.agg #[vp],zI f] 34 Tryz.func136 Z Z sM ?_
 have ac:AF w w:=AF.refl w
 have aj:=hp.lenle
 unfold maxLen at aj
 refine ZN [3,0] Z (Bj (cs:=#[vp]) Z Aa fun w1 a6 ah a4=>?_)
 have ad:=a6.size
 have a7:=ac.trans a6
 replace a4:BX w1.heap w.heap.size [vp]:=a4
 refine Ac 1 Z<|A0<|AO _ [1,0,3,0,0,0,2,0,0,0,2,0,0,0,0,2,0,0,0,2,0,0,2,0,0,0,2,0,0,0] mixed (by kernel_rfl)<|AJ (p:=zP w.heap.size) (.inl Z) [vp] Df Z (fun ak ae=>LD.of_box<|BX.ext (w:=w1.drew) a4 ae) Z Aa<|Ad 1 Z<|Am 56 [] [] [.agg #[vp],zI f] Z Z XB Aa (If _ dp vp (p) _ (hp.ext (Al<|Ax dp) a7.drew) _hf hz) ?_
 rintro e2 w2 ⟨rfl,a2⟩
 refine⟨_,rfl,a2,?_⟩
 replace a2:=a2.of_drew
 have af:=a2.size
 have a1:=a7.trans a2
 have a0:=a4.ext a2
 by_cases a8:O0 p f=((0:Nat):Int)
 ·refine Ap true Z Z (A5 a8) Aa<|Ad 1 Z ?_
  have ai:=Uq (p:=p) (f:=f) oM
  refine Ak (p:=zP w.heap.size) 0 BA Z Z (Ag (e:=9) Z Z Z)<|Ae (p:=An (zP w.heap.size) 0) (.inr Z) vp C5 Z (a0.ldp (i:=0) sM) (Ag (e:=9) Z Z Z)<|Ad 1 Z<|Au (v:=vp) ((f).toNat) Fq C9 Z Z hp.isSl oM sD (Ag (e:=9) Z Z Z) ?_
  obtain⟨cs4,ag,a3⟩:=hp.get (Ax dp) Fn.zero (k:=(f).toNat) sD
  obtain⟨a9,rfl,aa⟩:=RF.of ag
  have a5:=aa.rn.lenle
  unfold maxLen at a5
  refine AD (p:=Aw vp ((f).toNat) 3) 1 Ct Z (a3 _<|AA.of_ext [] a1) (Ag (e:=9) Z Z Z)<|Ae (p:=An (Aw vp ((f).toNat) 3) 1) (.inr Z) (zI<|(p.getD ((f).toNat) Fn.zero).params) AC Z ((a3 _<|AA.of_ext [] a1).ld (i:=1) (by simp[DQ,DU])) (Ag (e:=9) Z Z Z) ?_
  by_cases ab:((1:Nat):Int)≤(p.getD ((f).toNat) Fn.zero).params
  ·refine CU true Z Z (A5 ab) (Ag (e:=9) Z Z Z)<|Ad 2 Z<|Ak (p:=zP w.heap.size) 0 BA Z Z (Ag (e:=18) Z Z Z)<|Ae (p:=An (zP w.heap.size) 0) (.inr Z) vp C5 Z (a0.ldp (i:=0) sM) (Ag (e:=18) Z Z Z)<|Ad 1 Z ?_
   refine Au (v:=vp) ((f).toNat) Fq C9 Z Z hp.isSl oM sD (Ag (e:=18) Z Z Z)<|AD (p:=Aw vp ((f).toNat) 3) 2 BQ Z (a3 _<|AA.of_ext [] a1) (Ag (e:=18) Z Z Z)<|Ae (p:=An (Aw vp ((f).toNat) 3) 2) (.inr Z) a9 Ba Z ((a3 _<|AA.of_ext [] a1).ld (i:=2) (by simp[DQ,DU])) (Ag (e:=18) Z Z Z)<|AP (v:=a9) CB Z aa.rn.isSl (Ag (e:=18) Z Z Z) ?_
   refine Ak (p:=zP w.heap.size) 0 BA Z Z (Ag (e:=18) Z Z Z)<|Ae (p:=An (zP w.heap.size) 0) (.inr Z) vp C5 Z (a0.ldp (i:=0) sM) (Ag (e:=18) Z Z Z)<|Ad 1 Z<|Au (v:=vp) ((f).toNat) Fq C9 Z Z hp.isSl oM sD (Ag (e:=18) Z Z Z) ?_
   refine AD (p:=Aw vp ((f).toNat) 3) 1 Ct Z (a3 _<|AA.of_ext [] a1) (Ag (e:=18) Z Z Z)<|Ae (p:=An (Aw vp ((f).toNat) 3) 1) (.inr Z) (zI<|(p.getD ((f).toNat) Fn.zero).params) AC Z ((a3 _<|AA.of_ext [] a1).ld (i:=1) (by simp[DQ,DU])) (Ag (e:=18) Z Z Z)<|Ap (decide (((((p.getD ((f).toNat) Fn.zero).outs).length:Nat):Int)=(p.getD ((f).toNat) Fn.zero).params)) Z Z Z (Ag (e:=18) Z Z Z)<|Ac 2 Z<|A1 ?_
   exact Af [4] Z (.bool<|decide (((((p.getD ((f).toNat) Fn.zero).outs).length:Nat):Int)=(p.getD ((f).toNat) Fn.zero).params)) Z ⟨OX,a1⟩
  exact CU false Z Z (A6 ab) (Ag (e:=9) Z Z Z)<|Ac 18 Z<|A1<|Af [4] Z (.bool false) Z ⟨OX,a1⟩
 exact Ap false Z Z (A6 a8) Aa<|Ac 26 Z<|A1<|Af [4] Z (.bool false) Z ⟨OX,a1⟩
theorem ZF {p:List Fn}{f:Int}{l:List Sr}(h:H2 p=false):1=I1 p f l:=by unfold I1;rw[h];rfl
theorem ZG {p:List Fn}{f:Int}{l:List Sr}(h:H2 p=true)(h2:Pw p f=false):2=I1 p f l:=by
  unfold Pw at h2;rw[h,Bool.true_and]at h2
  unfold I1;rw[if_pos h,h2];rfl
theorem ZH {p:List Fn}{f:Int}{l:List Sr}{k:Nat}(h:Pw p f=true)(hk:k<l.length)(hb:(decide ((((l.getD k []).length:Nat):Int)=(p.getD f.toNat Fn.zero).params) && B9 (l.getD k []))=false):2=I1 p f l:=by
  unfold Pw at h;rw[z7]at h
  unfold I1;rw[if_pos h.1,if_pos h.2,NR (f:=(fun s=>decide (((s.length:Nat):Int)=(p.getD f.toNat Fn.zero).params) && B9 s)) [] hk hb];rfl
theorem ZI {p:List Fn}{f:Int}{l:List Sr}{k:Nat}(h:Pw p f=true)(hl:(l.take k).all (fun s=>decide (((s.length:Nat):Int)=(p.getD f.toNat Fn.zero).params) && B9 s)=true)(hk:l.length≤k):0=I1 p f l:=by
  unfold Pw at h;rw[z7]at h
  unfold I1;rw[if_pos h.1,if_pos h.2,NS hl hk];rfl
theorem Qa {p:Prop}(h:p:=by first|exact AS (ZF (DF (by assumption)))|exact AS (ZG (Ds (by assumption)) (DF (by assumption)))|exact AS (ZH (k:=k) hrn oM (DF (by assumption)))|exact AS (ZI hrn hq oM)):p:=h
theorem JM (w:World)(dp:Nat)(vp:Value)(p:List Fn)(f:Int)(vl:Value)(l:List (Sr))(hp:RP [] dp w.heap vp p)(_hf:Bk f)(hl:RN [] (B5 (B5 rI)) w.heap vl l)(hql:BV vl)(hz:Qj p) :
  Calls Tryz.prog 76 #[(.agg #[vp]),zI f,vl] w (fun e w'=>e=.returned (zI (I1 p f l))∧AF w w'):=by
 refine As [.agg #[vp],zI f,vl] 34 Tryz.func76 Z Z sM ?_
 have ao:AF w w:=AF.refl w
 have b3:=hp.lenle
 unfold maxLen at b3
 have b4:=hl.lenL
 unfold maxLen at b4
 refine ZN [3,0] Z (Bj (cs:=#[vp]) Z Aa fun w1 af ay ad=>?_)
 have ag:=af.size
 have ah:=ao.trans af
 replace ad:BX w1.heap w.heap.size [vp]:=ad
 refine Ac 1 Z<|A0<|A3<|ZN [2,3,0,0] Z<|AJ (p:=zP w.heap.size) (.inr Z) [vp] Df Z (fun b5 ai=>LD.of_box<|BX.ext (w:=w1) ad ai) Z Aa<|Am 100 [] [] [.agg #[vp]] Z Z UC Aa (Fe _ dp vp (p) (hp.ext (Al<|Ax dp) ah) hz) ?_
 rintro e2 w2 ⟨rfl,a5⟩
 refine⟨_,rfl,a5,?_⟩
 have aj:=a5.size
 have ae:=ah.trans a5
 have a3:=ad.ext a5
 refine Bd (!(H2 p)) Z Z Aa<|Ac 1 Z ?_
 cases ap:(!(H2 p))
 ·refine Ai (by first|rfl|exact zW ap)<|ZN [2,0,3,0,0] Z<|AJ (p:=zP w.heap.size) (.inr Z) [vp] Df Z (fun b5 ai=>LD.of_box<|BX.ext (w:=w2) a3 ai) Z Aa<|Ad 1 Z<|Am 136 [] [] [.agg #[vp],zI f] Z Z XQ Aa (Ji _ dp vp (p) _ (hp.ext (Al<|Ax dp) ae) _hf hz) ?_
  rintro e4 w4 ⟨rfl,a6⟩
  refine⟨_,rfl,a6,?_⟩
  have ak:=a6.size
  have al:=ae.trans a6
  have a7:=a3.ext a6
  refine Bd (!(Pw p f)) Z Z Aa<|Ac 1 Z ?_
  cases aq:(!(Pw p f))
  ·refine Ai (by first|rfl|exact zW aq)<|A2<|A0<|ZN [0,0,0] Z ?_
   have hrn:Pw p f=true:=Ds (by assumption)
   have hrf:=Kt.1 (z7 .. ▸ hrn:H2 p=true∧MS p f=true).2
   refine Ad 1 Z<|AP (v:=vl) Bs Z hl.slL Aa<|Ac 1 Z<|A3 ?_
   refine AT (S:=Nat) (fun k=>([(20,zI (k:Int)),(1,zI f),(3,zP w.heap.size),(18,vl),(19,zI (l.length:Int))])) (fun k W=>AF w W∧BX W.heap w.heap.size [vp]∧k≤l.length∧(l.take k).all (fun s=>decide ((s.length:Int)=(p.getD f.toNat Fn.zero).params) && B9 s)=true) (fun k=>l.length-k) 0 ⟨rfl,rfl,rfl,rfl,rfl,trivial⟩ ⟨al,a7,sD,rfl⟩ ?_
   clear ao ay af ag ah a5 aj ae a6 ak al
   rintro k ρ6 w6 ⟨a4,a0,ar,hq⟩
   have az:w.heap.size≤w6.heap.size:=a4.size
   have b2:=a0.lt
   refine ZN [0] Z ?_
   by_cases au:(k:Int)<(l.length:Int)
   ·refine AE true Z Z (A5 au) Aa<|Aj<|A0<|Ah Z<|A2<|A0<|A3<|ZN [0,2,0] Z<|Au (v:=vl) k Bs AV Z Z hl.slL Z sD Aa ?_
    obtain⟨av,b0,aw⟩:=RN.getL (w:=w) g1 [] (k:=k) hl sD
    have am:=aw.lenL
    unfold maxLen at am
    refine Ae (p:=Aw vl k 1) (.inr Z) av AZ Z (b0 _<|AA.of_ext [] a4) Aa<|Ac 1 Z<|ZN [0,0,2,0,0,0,2,3,0] Z<|Ad 1 Z<|Ak (p:=zP w.heap.size) 0 BA Z Z Aa<|Ae (p:=An (zP w.heap.size) 0) (.inr Z) vp C5 Z (a0.ldp (i:=0) sM) Aa<|Ad 1 Z ?_
    refine Au (v:=vp) ((f).toNat) Fq C9 Z Z hp.isSl oM sD Aa ?_
    obtain⟨cs10,an,a8⟩:=hp.get (Ax dp) Fn.zero (k:=(f).toNat) sD
    obtain⟨b1,rfl,a9⟩:=RF.of an
    have aa:=a9.rn.lenle
    unfold maxLen at aa
    refine AD (p:=Aw vp ((f).toNat) 3) 1 Ct Z (a8 _<|AA.of_ext [] a4) Aa<|Ae (p:=An (Aw vp ((f).toNat) 3) 1) (.inr Z) (zI<|(p.getD ((f).toNat) Fn.zero).params) AC Z ((a8 _<|AA.of_ext [] a4).ld (i:=1) (by simp[DQ,DU])) Aa<|Am 57 [] [] [av,zI<|(p.getD ((f).toNat) Fn.zero).params] Z Z TV Aa (Dg _ _ _ _ (aw.ext g1 a4).rd a9.rng) ?_
    rintro b6 b7 ⟨rfl,a2⟩
    refine⟨_,rfl,a2,?_⟩
    have ax:=a2.size
    have ab:=a4.trans a2
    have a1:=a0.ext a2
    refine Bd (!(decide ((((l.getD k []).length:Nat):Int)=((p.getD ((f).toNat) Fn.zero).params)) && B9 (l.getD k []))) Z Z Aa<|Aj ?_
    cases ac:(!(decide ((((l.getD k []).length:Nat):Int)=((p.getD ((f).toNat) Fn.zero).params)) && B9 (l.getD k [])))
    ·refine Ai (by first|rfl|exact zW ac)<|A2<|Ab _ [0,0] Z<|AQ ((k+1:Nat):Int) Z Z (Be oM sD) Aa<|Ac 1 Z ?_
     exact⟨k+1,_,rfl,zR,⟨ab,a1,sD,(by exact NP (f:=fun s=>decide ((s.length:Int)=(p.getD f.toNat Fn.zero).params) && B9 s) [] hq oM (Ds (by assumption)))⟩,zD⟩
    exact Ah (by first|rfl|exact zW ac)<|ZO Z<|A1<|AH<|Ao<|Ao<|AH<|Ao<|Af [6] Z (zI ((2:Nat):Int)) Z ⟨Qa,ab⟩
   exact AE false Z Z (A6 au) Aa<|Aj<|A0<|Ai Z<|A4<|Ay<|Ay<|At<|ZO Z<|A1<|Af [6] Z (zI ((0:Nat):Int)) Z ⟨Qa,a4⟩
  exact Ah (by first|rfl|exact zW aq)<|ZO Z<|A1<|AH<|Ao<|Af [6] Z (zI ((2:Nat):Int)) Z ⟨Qa,al⟩
 exact Ah (by first|rfl|exact zW ap)<|ZO Z<|A1<|AH<|Ao<|Af [6] Z (zI ((1:Nat):Int)) Z ⟨Qa,ae⟩
theorem Kf (w:World)(n:Int)(_hn:Bk n)  :
  Calls Tryz.prog 77 #[zI n] w (fun e w'=>e=.returned (.bool (GA n 0 40))∧AF w w'):=by
 refine As [zI n] 5 Tryz.func77 Z Z sM ?_
 have a0:AF w w:=AF.refl w
 exact ZO Z<|ZN [0,0,0] Z<|Ad 1 Z<|AB 66 [] [] [zI n,zI ((0:Nat):Int),zI ((40:Nat):Int)] Z Z EL Aa (.bool (decide (((0:Nat):Int)≤n) && decide (n≤((40:Nat):Int)))) (fun wq=>B4 wq _ _ _ _hn oM oM)<|Ac 1 Z<|A1<|Af [2] Z (.bool (decide (((0:Nat):Int)≤n) && decide (n≤((40:Nat):Int)))) Z ⟨rfl,a0⟩
theorem I5 (w:World)(dp:Nat)(vp:Value)(p:List Fn)(f:Int)(va:Value)(a:Sr)(hp:RP [] dp w.heap vp p)(_hf:Bk f)(ha:Rd (B5 rI) w.heap va a)(hvp:FY p)(hf:0≤f∧f<(p.length:Int))(hl:(a.length:Int)=(p.getD f.toNat Fn.zero).params)(hna:B9 a=true) :
  Calls Tryz.prog 105 #[(.agg #[vp]),zI f,va] w (fun e w'=>∃v0:Value,e=.returned (.tuple #[v0,zI (GB p f.toNat a)])∧AF w w'∧Fr (Bo rI 2) w.heap.size w'.heap.size w'.heap v0 (Py p f.toNat a)∧Qt p f.toNat a):=by
 refine As [.agg #[vp],zI f,va] 25 Tryz.func105 Z Z sM ?_
 have ag:AF w w:=AF.refl w
 have ap:=hp.lenle
 unfold maxLen at ap
 have aq:=ha.lenle
 have hpar:=hvp.par f.toNat oM
 have hsl:(Cq a).length=a.length:=by unfold Cq;rw[zg]
 refine ZN [3,0,0] Z (Bj (cs:=#[vp]) Z Aa fun w1 ab ao a7=>?_)
 have ah:=ab.size
 have ac:=ag.trans ab
 replace a7:BX w1.heap w.heap.size [vp]:=a7
 refine Ac 2 Z<|A0<|AO _ [1,0,0,3,3,0,0,0,0,0,0,0] mixed (by kernel_rfl)<|AJ (p:=zP w.heap.size) (.inl Z) [vp] Df Z (fun ar ai=>LD.of_box<|BX.ext (w:=w1.drew) a7 ai) Z Aa<|Ad 2 Z<|Am 130 [] [] [va] Z Z XO Aa (Ls _ _ _ (ha.ext g1 ac.drew) oM) ?_
 rintro e2 w2 ⟨a2,rfl,a3,a0⟩
 refine⟨_,rfl,a3,?_⟩
 replace a3:=a3.of_drew
 have aj:=a3.size
 have ad:=ac.trans a3
 replace a0:=a0.low (B':=w1.heap.size)<|A7 _
 refine Am 163 [] [] [.agg #[vp],zI f,a2,zI ((0:Nat):Int)] Z Z Y4 Aa (Gc _ dp vp (p) _ a2 (Cq a) (0) (hp.ext (Al<|Ax dp) ad) _hf (RN.of_fr2 a0 fun b hb=>by cases hb) a0.cap hvp oM oM (by exact D3 hna) oM) ?_
 rintro e3 w3 ⟨a1,rfl,a8,a4,ae⟩
 refine⟨_,rfl,a8,?_⟩
 have ak:=a8.size
 have a9:=ad.trans a8
 refine Ad 1 Z<|B7 (vs:=[a1,zI ((Oq p (0+1) f.toNat (Cq a):Nat):Int),zI<|MO p (0+1) f.toNat<|Cq a]) a1 Z Z Aa<|B7 (vs:=[a1,zI ((Oq p (0+1) f.toNat (Cq a):Nat):Int),zI<|MO p (0+1) f.toNat<|Cq a]) (zI ((Oq p (0+1) f.toNat (Cq a):Nat):Int)) Z Z Aa<|B7 (vs:=[a1,zI ((Oq p (0+1) f.toNat (Cq a):Nat):Int),zI<|MO p (0+1) f.toNat<|Cq a]) (zI<|MO p (0+1) f.toNat<|Cq a) Z Z Aa<|Ac 3 Z<|A0<|ZN [0,0] Z ?_
 have hEV:=‹Ul p (0+1) f.toNat (Cq a)›
 have hec:0≤GB p f.toNat a∧GB p f.toNat a≤9:=hEV.code
 have hes:=hEV.ser
 have hel:=hEV.len
 have hne:GB p f.toNat a=MO p (0+1) f.toNat (Cq a):=rfl
 have au:=hvp.outs f.toNat oM
 refine Ad 1 Z ?_
 by_cases af:MO p (0+1) f.toNat (Cq a)≠((0:Nat):Int)
 ·exact AU true Z Z (A5 af) Aa<|Aj<|Ah Z<|ZN [0,0,0] Z<|Ac 3 Z<|A1<|Ao<|Af [6,7] Z (.tuple #[zN,zI<|MO p (0+1) f.toNat<|Cq a]) Z ⟨zN,rfl,a9,(by rw[(Qt.mk' hEV).non oM];exact K3 _ _ _),Qt.mk' hEV⟩
 refine AU false Z Z (A6 af) Aa<|Aj<|Ai Z<|A2<|ZN [0,3,0,0] Z<|Ad 1 Z<|Am 61 [] [] [a1] Z Z XC Aa (Ie _ _ _ a4.rd2 oM (by intro k9 al;have:=(hes k9 al).1;omega)) ?_
 rintro e5 w5 ⟨a5,rfl,aa,a6⟩
 refine⟨_,rfl,aa,?_⟩
 have am:=aa.size
 have an:=a9.trans aa
 exact Ac 2 Z<|A1<|Af [6,7] Z (.tuple #[a5,zI ((0:Nat):Int)]) Z ⟨a5,(by rw[show GB p f.toNat a=0 from by omega];rfl),an,(a6.up o1).low a9.size,Qt.mk' hEV⟩
theorem Ef (w:World)(dp:Nat)(vp:Value)(p:List Fn)(f:Int)(va:Value)(a:Sr)(n:Int)(hp:RP [] dp w.heap vp p)(_hf:Bk f)(ha:Rd (B5 rI) w.heap va a)(_hn:Bk n)(hvp:FY p)(hf:0≤f∧f<(p.length:Int))(hl:(a.length:Int)=(p.getD f.toNat Fn.zero).params)(hna:B9 a=true)(hn:0≤n∧n≤40)(hou:((p.getD f.toNat Fn.zero).outs.length:Int)=(p.getD f.toNat Fn.zero).params) :
  Calls Tryz.prog 78 #[(.agg #[vp]),zI f,va,zI n] w (fun e w'=>∃v0:Value,e=.returned (.tuple #[v0,zI (FM p f.toNat a n.toNat)])∧AF w w'∧Fr (Bo (Bo rI 2) 27) w.heap.size w'.heap.size w'.heap v0 (X0 p f.toNat a n.toNat)∧Qu p f.toNat a n.toNat):=by
 refine As [.agg #[vp],zI f,va,zI n] 40 Tryz.func78 Z Z sM ?_
 have b2:AF w w:=AF.refl w
 have bo:=hp.lenle
 unfold maxLen at bo
 have bp:=ha.lenle
 have hpar:=hvp.par f.toNat oM
 refine ZN [3,0,0] Z (Bj (cs:=#[vp]) Z Aa fun w1 ao be ap=>?_)
 have bf:=ao.size
 have al:=b2.trans ao
 replace ap:BX w1.heap w.heap.size [vp]:=ap
 refine Ac 2 Z<|ZN [0,3,3,0] Z<|Ad 1 Z<|Am 79 [] [] [va] Z Z TY Aa (BM _ _ _ (ha.ext g1 al) oM) ?_
 rintro e2 w2 ⟨aq,rfl,ad,aa⟩
 refine⟨_,rfl,ad,?_⟩
 have ar:=ad.size
 have b3:=al.trans ad
 have ae:=ap.ext ad
 refine By (u:=aq) (B:=w1.heap.size) o1 Bs AV Z Z aa (by first|exact A7 _|omega) Aa fun v3 w3 am bg b4=>?_
 have au:=am.size
 have b5:=b3.trans am
 have af:=ae.ext am
 refine Ac 1 Z<|A0<|ZN [0,0] Z<|Ac 2 Z<|A3 ?_
 refine AT (S:=Nat×Value) (fun⟨k,vo⟩=>([(10,vo),(18,zI (k:Int)),(1,zI f),(4,zP w.heap.size),(17,zI n)])) (fun⟨k,vo⟩ W=>AF w W∧Fr (Bo (Bo rI 2) 27) w1.heap.size W.heap.size W.heap vo (Du (k+1)<|Dp p f.toNat a)∧BX W.heap w.heap.size [vp]∧k≤n.toNat∧FM p f.toNat a k=0∧((Dp p f.toNat a k).length:Int)=(p.getD f.toNat Fn.zero).params∧B9 (Dp p f.toNat a k)=true∧(∀j,j≤k→(Dp p f.toNat a j).length=a.length)∧w.heap.size<w1.heap.size∧w1.heap.size≤W.heap.size) (fun⟨k,vo⟩=>n.toNat-k) (0,v3) ⟨rfl,rfl,rfl,rfl,rfl,trivial⟩ ⟨b5,b4.up o2,af,sD,(by rfl),hl,hna,(by intro j hj;rw[show j=0 from by omega];rfl),oM,oM⟩ ?_
 clear b2 be ao aa ad ar b3 b4 bg am au b5
 rintro⟨k,vo⟩ ρ5 w5 ⟨an,a2,a5,b6,hrk,hrl,hrn,hrj,bh,bi⟩
 have bj:w.heap.size≤w5.heap.size:=an.size
 have hti:=Ck (f:=Dp p f.toNat a) (n:=k+1) (k:=k) [] oM
 have htl:(Du (k+1) (Dp p f.toNat a)).length=k+1:=by simp[Du]
 have bn:=a5.lt
 refine ZN [0] Z ?_
 by_cases b7:(k:Int)<n
 ·refine AE true Z Z (A5 b7) Aa<|Aj<|A0<|Ah Z<|A2<|A0<|A3<|ZN [0,0] Z<|Ac 2 Z<|A0<|AO _ [1,0,0,0,0,1,3,0,0,0,0,0] mixed (by kernel_rfl)<|AJ (p:=zP w.heap.size) (.inl Z) [vp] Df Z (fun bt bk=>LD.of_box<|BX.ext (w:=w5.drew) a5 bk) Z Aa<|Ad 3 Z ?_
  refine Au (v:=vo) k Bs AV Z Z a2.isSl Z sD Aa ?_
  obtain⟨b8,b9,av⟩:=a2.rd2.get (k:=k) [] sD
  have bl:=av.lenle
  refine Ae (p:=Aw vo k 1) (.inl Z) b8 AZ Z b9 Aa<|Am 105 [] [] [.agg #[vp],zI f,b8] Z Z XF Aa (I5 _ dp vp (p) _ _ _ (hp.ext (Al<|Ax dp) an.drew) _hf av hvp oM (by rw[hti];exact hrl) (by rw[hti];exact hrn)) ?_
  rintro bu bv ⟨a3,rfl,a0,a1,aw⟩
  refine⟨_,rfl,a0,?_⟩
  replace a0:=a0.of_drew
  have ba:=a0.size
  have ag:=an.trans a0
  have a6:=a2.ext (o2) a0
  have a7:=a5.ext a0
  have ab:=av.ext g1 a0
  have ah:=Bc a0 b9
  replace a1:=a1.low (B':=w5.heap.size)<|A7 _
  refine Ad 1 Z<|B7 (vs:=[a3,zI<|GB p f.toNat<|(Du (k+1)<|Dp p f.toNat a).getD k []]) a3 Z Z Aa<|B7 (vs:=[a3,zI<|GB p f.toNat<|(Du (k+1)<|Dp p f.toNat a).getD k []]) (zI<|GB p f.toNat<|(Du (k+1)<|Dp p f.toNat a).getD k []) Z Z Aa<|Ac 2 Z<|A0<|ZN [0,0] Z ?_
  have hNX:=‹Qt p f.toNat ((Du (k+1)<|Dp p f.toNat a).getD k [])›
  rw[hti]at hNX
  have hnc:=hNX.code
  have hcd:GB p f.toNat ((Du (k+1) (Dp p f.toNat a)).getD k [])=GB p f.toNat (Dp p f.toNat a k):=by rw[hti]
  refine Ad 1 Z ?_
  by_cases ai:GB p f.toNat ((Du (k+1) (Dp p f.toNat a)).getD k [])≠((0:Nat):Int)
  ·refine AU true Z Z (A5 ai) Aa<|Aj<|Ah Z<|ZN [0,0,0] Z<|Ac 3 Z<|A1<|Ao<|AH<|Ao<|Ao<|AH<|Ao ?_
   have hfc:FM p f.toNat a n.toNat=GB p f.toNat (Dp p f.toNat a k):=by rw[J7 (k:=k+1) (by rw[EH hrk];omega) oM,EH hrk]
   exact Af [8,9] Z (.tuple #[zN,zI<|GB p f.toNat<|(Du (k+1)<|Dp p f.toNat a).getD k []]) Z ⟨zN,(by rw[hfc,hti]),ag,(by rw[Pz (by rw[hfc];omega)];exact K3 _ _ _),Qu.err hfc oM hnc⟩
  refine AU false Z Z (A6 ai) Aa<|Aj<|Ai Z<|A2<|Ab _ [0,0,3,4,0] Z<|Ad 2 Z (By (u:=a3) (B:=w5.heap.size) o1 Bs AV Z Z a1 (by first|exact A7 _|omega) Aa fun bq bw a4 bm ax=>?_)
  have bb:=a4.size
  have aj:=ag.trans a4
  have a8:=a6.ext (o2) a4
  have a9:=a7.ext a4
  have ay:=ab.ext g1 a4
  have bc:=Bc a4 ah
  refine GF o1 (v:=vo) (a:=bq) Bs AV Z Z Z a8 oM ax oM oM sD (by unfold maxLen;first|omega|assumption|(simp;done)|(simp;omega)) Aa fun br bs bx ac ak az=>?_
  have b0:AF w bs:=ac.below aj (fun c hc=>A8 al.size (ak c hc).1) aj.size
  have bd:=ac.size
  have b1:=a9.chg ac fun hm=>zH<|ak _ hm
  refine Ac 1 Z<|Ab _ [0,0] Z<|AQ ((k+1:Nat):Int) Z Z (Be oM oM) Aa<|Ac 1 Z ?_
  exact⟨(k+1,br),_,rfl,zR,⟨b0,(by have h:=az.up o2;rw[hti]at h;rw[J0];exact h),b1,sD,(by rw[EH hrk];omega),(by have:=hNX.len oM;show(((Py p f.toNat (Dp p f.toNat a k)).length:Nat):Int)=_;omega),hNX.num,(by intro j hj;by_cases e9:j≤k;(exact hrj j e9);(rw[show j=k+1 from by omega];have:=hNX.len oM;show(Py p f.toNat (Dp p f.toNat a k)).length=_;omega)),oM,oM⟩,zD⟩
 refine AE false Z Z (A6 b7) Aa<|Aj<|A0<|Ai Z<|A4<|Ay<|Ay<|At<|ZN [0,0,0] Z<|Ac 3 Z<|A1 ?_
 have hke:k=n.toNat:=by omega
 exact Af [8,9] Z (.tuple #[vo,zI ((0:Nat):Int)]) Z ⟨vo,(by rw[← hke,hrk];rfl),an,(by have h:=(a2.up o2).low al.size;rw[← hke,L5 hrk];exact h),Qu.ok (by rw[← hke];exact hrk) (by rw[← hke];exact hrj)⟩
theorem SI {p:Prop}(h:p:=by simp only[z9,zb];unfold maxLen;omega):p:=h
theorem SJ {p:Prop}(h:p:=by simp only[z9,zb];omega):p:=h
theorem MB {p:Prop}(h:p:=by rw[E4];omega):p:=h
theorem CK (w:World)(S:List Nat)(g:Nat)(vp:Value)(ip:Int)(s0:Nat)(c0:Int)(T:Tp)(c:Az)(v:Int)(hS:∀b∈S,b<w.heap.size)(hgS:g∈S)(hR0:Qs 46 177 2 S g w.heap vp ip T s0 c0)(_hip:Bk ip)(hln:T.code.length≤4000∧T.vals.length≤4000)(hc:OG c)(_hv:Bk v)  :
  Calls Tryz.prog 58 #[zP g,(.agg #[(zI c.op),(zI c.a),(zI c.b),(zI c.num)]),zI v] w (fun e w'=>∃S':List Nat,e=.returned (zI (T.vals.length:Int))∧Dy S S' w w'∧Qs 46 177 2 S' g w'.heap vp ip (T.put c v) s0 c0):=by
 refine As [zP g,.agg #[zI c.op,zI c.a,zI c.b,zI c.num],zI v] 35 Tryz.func58 Z Z sM ?_
 have dr:AA S w w:=AA.refl S w
 obtain⟨rc0,rg0,rv0,bt,d5⟩:=hR0
 have fi:=bt.lt
 have hG0:Dy S S w w:=Dy.refl hS
 have hml:=BG.len d5
 refine ZN [3,0] Z ?_
 have eo:=bt.lt
 refine Bj (cs:=#[zI c.op,zI c.a,zI c.b,zI c.num]) Z Aa fun w1 ay ep bu=>?_
 have ds:w.heap.size≤w1.heap.size:=ay.size
 have d6:AA S w w1:=dr.ext ay
 have a7:=bt.ext ay
 have dt:=BG.ext d5 ay
 have d7:=hG0.ext ay
 replace bu:BX w1.heap w.heap.size [zI c.op,zI c.a,zI c.b,zI c.num]:=bu
 refine Ac 1 Z<|A0 ?_
 obtain⟨Fc,Fg,Fv,hOc,hOg,hOv,hdj,hgn,hSc,hSg,hSv⟩:=id dt
 letI:JR:=X7 (Fc++Fv)
 refine Jx.Xb _ [0,0,0,0,0,0,1,1,3,3,0,0,0,1,0,3,3,0,0,0,4,0,0,4] [0,1,2,3,4,5,6,7,10,11,12,13,14] 8 9 [15,16,17,18,19,20,21,22,23] 15 [9,16,17,18,19,20,21,22,23] 15 [8,9,16,17,18,19,20,21,22,23] [_,_,_,_,_,_,_,_,_,_,_,_,_] [0,0,0,0,0,0,1,1,0,0,0,1,0] _ _ [_,_,_,_,_,_,_,_,_] [3,3,0,0,0,4,0,0,4] _ [_,_,_,_,_,_,_,_,_] [3,3,0,0,0,4,0,0,4] _ [_,_,_,_,_,_,_,_,_,_] [3,3,3,0,0,0,4,0,0,4] mixed (by kernel_rfl) ⟨rfl,rfl,⟨rfl,rfl,⟨rfl,rfl,⟨rfl,rfl,⟨rfl,rfl,⟨rfl,rfl,⟨rfl,rfl,⟨rfl,rfl,⟨rfl,rfl,⟨rfl,rfl,⟨rfl,rfl,⟨rfl,rfl,⟨rfl,rfl,trivial⟩⟩⟩⟩⟩⟩⟩⟩⟩⟩⟩⟩⟩ ⟨rfl,rfl,trivial⟩ ⟨rfl,rfl,⟨rfl,rfl,⟨rfl,rfl,⟨rfl,rfl,⟨rfl,rfl,⟨rfl,rfl,⟨rfl,rfl,⟨rfl,rfl,⟨rfl,rfl,⟨rfl,rfl,trivial⟩⟩⟩⟩⟩⟩⟩⟩⟩⟩ ⟨rfl,rfl,⟨rfl,rfl,⟨rfl,rfl,⟨rfl,rfl,⟨rfl,rfl,⟨rfl,rfl,⟨rfl,rfl,⟨rfl,rfl,⟨rfl,rfl,⟨rfl,rfl,trivial⟩⟩⟩⟩⟩⟩⟩⟩⟩⟩ ⟨rfl,rfl,⟨rfl,rfl,⟨rfl,rfl,⟨rfl,rfl,⟨rfl,rfl,⟨rfl,rfl,⟨rfl,rfl,⟨rfl,rfl,⟨rfl,rfl,⟨rfl,rfl,⟨rfl,rfl,trivial⟩⟩⟩⟩⟩⟩⟩⟩⟩⟩⟩ ?_
 refine Jx.V6 (zP g) Z Aa<|Jx.V6 (zP g) Z Aa<|Jx.V6 (zP g) Z Aa<|Jx.j1<|Bb Z Aa<|Aj ?_
 refine Jx.Ak (p:=zP g) 1 FU Z Z Aa<|Jx.Ak (p:=An (zP g) 1) (b:=g) (o:=1) 1 Cb Z Z Aa<|Jx.YX (p:=An (An (zP g) 1) 1) rc0 Dv Z (fun wj hj=>(BX.chg (w:=w1.drew) (F:=Fc++Fv) a7 hj fun hm=>(zi.1 hm).elim hgn.1 hgn.2.2).ldp (i:=2) sM) Aa<|Jx.X8 (p:=zP w.heap.size) [zI c.op,zI c.a,zI c.b,zI c.num] DE Z (fun wj hj=>LD.of_box<|BX.chg (w:=w1.drew) (F:=Fc++Fv) bu hj fun hm=>(zi.1 hm).elim (fun h9=>zH<|hS _ (hSc _ h9)) fun h9=>zH<|hS _ (hSv _ h9)) Z Aa<|Jx.V6 (zP g) Z Aa ?_
 refine Jx.j1<|Bb Z Aa<|Aj ?_
 refine Jx.Ak (p:=zP g) 5 DK Z Z Aa<|Jx.YX (p:=An (zP g) 5) rv0 AZ Z (fun wj hj=>(BX.chg (w:=w1.drew) (F:=Fc++Fv) a7 hj fun hm=>(zi.1 hm).elim hgn.1 hgn.2.2).ldp (i:=5) sM) Aa<|Jx.V6 (zI v) Z Aa<|Jx.Aj ⟨?_,?_⟩
 ·refine Jx.Z6<|KH (cs:=[zI c.op,zI c.a,zI c.b,zI c.num]) (y:=c) (B:=w1.heap.size) AW IP EM Z (by decide) Z (OH (U:=w1.heap.size) hc) (A7 _) Aa ?_
  intro v4 w4 ao eq d8
  refine Aj ?_
  have du:w1.heap.size≤w4.heap.size:=ao.size
  have az:=Ow.ext (w:=w1.drew) (Av AW) hOc ao
  have b0:=Ow.ext (w:=w1.drew) (AY AK) hOv ao
  have b1:=Ow.ext (w:=w1.drew) (Av B6) hOg ao
  have d9:=BX.ext (w:=w1.drew) a7 ao
  have da:AA S w w4:=d6.drew.ext ao
  have db:=d7.drew.ext ao
  refine Jx.Aj ⟨?_,?_⟩
  ·refine Jx.ZR<|JA (v:=rc0) (a:=v4) AW IP EM Z (by decide) Z Z az d8 oM (Nat.zero_le _) (Nat.zero_le _) oM (by unfold maxLen;omega) Aa ?_
   intro v5 w5 F5 ap dv b2
   refine Aj ⟨AA.sub ap fun b hb=>z8 _ hb,?_⟩
   have dw:w4.heap.size≤w5.heap.size:=ap.size
   have bv:=b0.keep (AY AK) ap fun b hb hm=>hdj.2.1 b hb hm
   have bw:=b1.keep (Av B6) ap fun b hb hm=>hdj.1 b hb hm
   have dx:=BX.chg d9 ap hgn.1
   have dy:AA S w w5:=da.trans (ap.sub hSc)
   have dz:=db.more ap hSc
   refine Jx.Z6<|By (u:=zI v) (B:=w5.heap.size) AK Bl BD Z Z (Mb w5.heap.size w5.heap.size _ _ _hv) (A7 _) Aa ?_
   intro v6 w6 aq er e0
   refine Aj ?_
   have e1:w5.heap.size≤w6.heap.size:=aq.size
   have bx:=Ow.ext (w:=w5) (Av AW) dv aq
   have bz:=Ow.ext (w:=w5) (AY AK) bv aq
   have c1:=Ow.ext (w:=w5) (Av B6) bw aq
   have e2:=BX.ext (w:=w5) dx aq
   have e3:AA S w w6:=dy.ext aq
   have e4:=dz.ext aq
   refine Jx.ZR<|ER (v:=rv0) (a:=v6) Bl BD Z Z Z bz e0.rd1 (Nat.zero_le _) SJ SI Aa ?_
   intro v7 w7 F7 ar dc br
   refine Aj ⟨AA.sub ar fun b hb=>z1 _ hb,?_⟩
   have e5:w6.heap.size≤w7.heap.size:=ar.size
   have au:=bx.keep (Av AW) ar fun b hb hm=>by rcases b2 b hm with h9|h9|h9;exact hdj.2.1 b h9 hb;(have:=hOv.high b hb;omega);(have:=hOv.high b hb;omega)
   have c2:=c1.keep (Av B6) ar fun b hb hm=>hdj.2.2 b hm hb
   have e6:=BX.chg e2 ar hgn.2.2
   have dd:AA S w w7:=e3.trans (ar.sub hSv)
   have es:=e4.more ar hSv
   refine Jx.Tr Z ?_
   have av:BG 46 177 2 (F5++(F7++S)) g w7.heap v5 rg0 v7 (T.put c v):=⟨F5,Fg,F7,au.up oM,c2.up oM,dc,⟨fun b hb hm=>by rcases b2 b hb with h9|h9|h9;exact hdj.1 b h9 hm;(have:=hOg.high b hm;omega);(have:=hOg.high b hm;omega),fun b hb hm=>by rcases br b hm with h8|h8;(rcases b2 b hb with h9|h9|h9;exact hdj.2.1 b h9 h8;(have:=hOv.high b h8;omega);(have:=hOv.high b h8;omega));(have:=au.high b hb;omega),fun b hm hb=>by rcases br b hb with h8|h8;exact hdj.2.2 b hm h8;(have:=hOg.high b hm;omega)⟩,⟨fun hm=>by rcases b2 g hm with h9|h9|h9;exact hgn.1 h9;omega;omega,hgn.2.1,fun hm=>by rcases br g hm with h9|h9;exact hgn.2.2 h9;omega⟩,fun b hb=>z8 _ hb,fun b hb=>z1 _ (z1 _ (hSg b hb)),fun b hb=>z1 _ (z8 _ hb)⟩
   have c3:Dy S (F5++(F7++S)) w w7:=⟨fun b hb=>z1 _ (z1 _ hb),fun b hb=>by rcases zi.1 hb with hb|hb;(rcases b2 b hb with h9|h9|h9;exact .inl (hSc b h9);(right;omega);(right;omega));rcases zi.1 hb with hb|hb;(rcases br b hb with h9|h9;exact .inl (hSv b h9);(right;omega));exact .inl hb,fun b hb=>by rcases zi.1 hb with hb|hb;(have:=au.high b hb;omega);rcases zi.1 hb with hb|hb;(exact dc.high b hb);(have:=hS b hb;omega),dd⟩
   refine Bb Z Aa<|Ak (p:=zP g) 1 FU Z Z Aa<|Ak (p:=An (zP g) 1) (b:=g) (o:=1) 1 Cb Z Z Aa (BH (k:=2) (w:=w7) TZ Z Z (Bn av.slc) e6 sM Aa fun w9 bs et c4=>?_)
   replace c4:BX w9.heap g [vp,zI ip,v5,rg0,zN,rv0,zI (s0:Int),zI c0]:=c4
   have e7:AA S w w9:=dd.trans (bs.sub (B2 hgS))
   have e8:=BG.chg av bs
   have e9:=c3.set hgS bs
   have ea:w7.heap.size≤w9.heap.size:=bs.size
   refine Bb Z Aa<|Ak (p:=zP g) 5 DK Z Z Aa (BH (k:=5) (w:=w9) H8 Z Z (Bn av.slv) c4 sM Aa fun f2 ae eb af=>?_)
   replace af:BX f2.heap g [vp,zI ip,v5,rg0,zN,v7,zI (s0:Int),zI c0]:=af
   have ec:AA S w f2:=e7.trans (ae.sub (B2 hgS))
   have b3:=BG.chg e8 ae
   have c5:=e9.set hgS ae
   have de:w9.heap.size≤f2.heap.size:=ae.size
   exact Aj<|ZN [0,0,0,2,0,0,0] Z<|Ad 1 Z<|Bb Z Aa<|Ak (p:=zP g) 5 DK Z Z Aa<|Ae (p:=An (zP g) 5) (.inr Z) v7 AZ Z (af.ldp (i:=5) sM) Aa<|AP (v:=v7) Bl Z (BG.slv b3) Aa<|Bi (T.vals.length:Int) Z Z (Be MB MB) Aa<|Ac 1 Z<|A1<|Af [6] Z (zI (T.vals.length:Int)) Z ⟨_,(by rfl),c5,⟨_,_,_,af,b3⟩⟩
  refine Jx.Z6<|By (u:=zI v) (B:=w4.heap.size) AK Bl BD Z Z (Mb w4.heap.size w4.heap.size _ _ _hv) (A7 _) Aa ?_
  intro ff f3 a0 ed c6
  refine Aj ?_
  have df:w4.heap.size≤f3.heap.size:=a0.size
  have b4:=Ow.ext (w:=w4) (Av AW) az a0
  have b5:=Ow.ext (w:=w4) (AY AK) b0 a0
  have b6:=Ow.ext (w:=w4) (Av B6) b1 a0
  have c7:=d8.ext (Av AW) a0
  have c8:=BX.ext (w:=w4) d9 a0
  have c9:AA S w f3:=da.ext a0
  have ca:=db.ext a0
  refine Jx.ZR<|JA (v:=rc0) (a:=v4) AW IP EM Z (by decide) Z Z b4 c7 oM (Nat.zero_le _) (Nat.zero_le _) oM (by unfold maxLen;omega) Aa ?_
  intro f4 f5 f6 a1 cb a8
  refine Aj ⟨AA.sub a1 fun b hb=>z8 _ hb,?_⟩
  have dg:f3.heap.size≤f5.heap.size:=a1.size
  have b7:=b5.keep (AY AK) a1 fun b hb hm=>hdj.2.1 b hb hm
  have b8:=b6.keep (Av B6) a1 fun b hb hm=>hdj.1 b hb hm
  have cc:=c6.chg (o1) a1 fun b hb=>zH<|hOc.high b hb
  have cd:=BX.chg c8 a1 hgn.1
  have ce:AA S w f5:=c9.trans (a1.sub hSc)
  have cf:=ca.more a1 hSc
  refine Jx.ZR<|ER (v:=rv0) (a:=ff) Bl BD Z Z Z b7 cc.rd1 (Nat.zero_le _) SJ SI Aa ?_
  intro f0 ew f7 a4 b9 ag
  refine Aj ⟨AA.sub a4 fun b hb=>z1 _ hb,?_⟩
  have dh:f5.heap.size≤ew.heap.size:=a4.size
  have a9:=cb.keep (Av AW) a4 fun b hb hm=>by rcases a8 b hm with h9|h9|h9;exact hdj.2.1 b h9 hb;(have:=hOv.high b hb;omega);(have:=hOv.high b hb;omega)
  have ba:=b8.keep (Av B6) a4 fun b hb hm=>hdj.2.2 b hm hb
  have cg:=BX.chg cd a4 hgn.2.2
  have bb:AA S w ew:=ce.trans (a4.sub hSv)
  have ee:=cf.more a4 hSv
  refine Jx.Tr Z ?_
  have aa:BG 46 177 2 (f6++(f7++S)) g ew.heap f4 rg0 f0 (T.put c v):=⟨f6,Fg,f7,a9.up oM,ba.up oM,b9,⟨fun b hb hm=>by rcases a8 b hb with h9|h9|h9;exact hdj.1 b h9 hm;(have:=hOg.high b hm;omega);(have:=hOg.high b hm;omega),fun b hb hm=>by rcases ag b hm with h8|h8;(rcases a8 b hb with h9|h9|h9;exact hdj.2.1 b h9 h8;(have:=hOv.high b h8;omega);(have:=hOv.high b h8;omega));(have:=a9.high b hb;omega),fun b hm hb=>by rcases ag b hb with h8|h8;exact hdj.2.2 b hm h8;(have:=hOg.high b hm;omega)⟩,⟨fun hm=>by rcases a8 g hm with h9|h9|h9;exact hgn.1 h9;omega;omega,hgn.2.1,fun hm=>by rcases ag g hm with h9|h9;exact hgn.2.2 h9;omega⟩,fun b hb=>z8 _ hb,fun b hb=>z1 _ (z1 _ (hSg b hb)),fun b hb=>z1 _ (z8 _ hb)⟩
  have bc:Dy S (f6++(f7++S)) w ew:=⟨fun b hb=>z1 _ (z1 _ hb),fun b hb=>by rcases zi.1 hb with hb|hb;(rcases a8 b hb with h9|h9|h9;exact .inl (hSc b h9);(right;omega);(right;omega));rcases zi.1 hb with hb|hb;(rcases ag b hb with h9|h9;exact .inl (hSv b h9);(right;omega));exact .inl hb,fun b hb=>by rcases zi.1 hb with hb|hb;(have:=a9.high b hb;omega);rcases zi.1 hb with hb|hb;(exact b9.high b hb);(have:=hS b hb;omega),bb⟩
  refine Bb Z Aa<|Ak (p:=zP g) 1 FU Z Z Aa<|Ak (p:=An (zP g) 1) (b:=g) (o:=1) 1 Cb Z Z Aa (BH (k:=2) (w:=ew) TZ Z Z (Bn aa.slc) cg sM Aa fun ey ah ef aw=>?_)
  replace aw:BX ey.heap g [vp,zI ip,f4,rg0,zN,rv0,zI (s0:Int),zI c0]:=aw
  have ch:AA S w ey:=bb.trans (ah.sub (B2 hgS))
  have ci:=BG.chg aa ah
  have cj:=bc.set hgS ah
  have di:ew.heap.size≤ey.heap.size:=ah.size
  refine Bb Z Aa<|Ak (p:=zP g) 5 DK Z Z Aa (BH (k:=5) (w:=ey) H8 Z Z (Bn aa.slv) aw sM Aa fun f8 ai eg aj=>?_)
  replace aj:BX f8.heap g [vp,zI ip,f4,rg0,zN,f0,zI (s0:Int),zI c0]:=aj
  have eh:AA S w f8:=ch.trans (ai.sub (B2 hgS))
  have bd:=BG.chg ci ai
  have ck:=cj.set hgS ai
  have dj:ey.heap.size≤f8.heap.size:=ai.size
  exact Aj<|ZN [0,0,0,2,0,0,0] Z<|Ad 1 Z<|Bb Z Aa<|Ak (p:=zP g) 5 DK Z Z Aa<|Ae (p:=An (zP g) 5) (.inr Z) f0 AZ Z (aj.ldp (i:=5) sM) Aa<|AP (v:=f0) Bl Z (BG.slv bd) Aa<|Bi (T.vals.length:Int) Z Z (Be MB MB) Aa<|Ac 1 Z<|A1<|Af [6] Z (zI (T.vals.length:Int)) Z ⟨_,(by rfl),ck,⟨_,_,_,aj,bd⟩⟩
 refine Jx.Z6<|By (u:=zI v) (B:=w1.heap.size) AK Bl BD Z Z (Mb w1.heap.size w1.heap.size _ _ _hv) (A7 _) Aa ?_
 intro fg eu a5 ei cl
 refine Aj ?_
 have dk:w1.heap.size≤eu.heap.size:=a5.size
 have be:=Ow.ext (w:=w1.drew) (Av AW) hOc a5
 have bf:=Ow.ext (w:=w1.drew) (AY AK) hOv a5
 have bg:=Ow.ext (w:=w1.drew) (Av B6) hOg a5
 have cm:=BX.ext (w:=w1.drew) a7 a5
 have cn:AA S w eu:=d6.drew.ext a5
 have co:=d7.drew.ext a5
 refine Jx.Z6<|KH (cs:=[zI c.op,zI c.a,zI c.b,zI c.num]) (y:=c) (B:=eu.heap.size) AW IP EM Z (by decide) Z (OH (U:=eu.heap.size) hc) (A7 _) Aa ?_
 intro fh f9 a2 ej cp
 refine Aj ?_
 have dl:eu.heap.size≤f9.heap.size:=a2.size
 have bh:=Ow.ext (w:=eu) (Av AW) be a2
 have bi:=Ow.ext (w:=eu) (AY AK) bf a2
 have bj:=Ow.ext (w:=eu) (Av B6) bg a2
 have cq:=cl.ext (o1) a2
 have cr:=BX.ext (w:=eu) cm a2
 have ct:AA S w f9:=cn.ext a2
 have cu:=co.ext a2
 refine Jx.ZR<|JA (v:=rc0) (a:=fh) AW IP EM Z (by decide) Z Z bh cp oM (Nat.zero_le _) (Nat.zero_le _) oM (by unfold maxLen;omega) Aa ?_
 intro fa fb fc a3 cv ab
 refine Aj ⟨AA.sub a3 fun b hb=>z8 _ hb,?_⟩
 have dm:f9.heap.size≤fb.heap.size:=a3.size
 have bk:=bi.keep (AY AK) a3 fun b hb hm=>hdj.2.1 b hb hm
 have bl:=bj.keep (Av B6) a3 fun b hb hm=>hdj.1 b hb hm
 have cw:=cq.chg (o1) a3 fun b hb=>zH<|hOc.high b hb
 have cx:=BX.chg cr a3 hgn.1
 have cy:AA S w fb:=ct.trans (a3.sub hSc)
 have cz:=cu.more a3 hSc
 refine Jx.ZR<|ER (v:=rv0) (a:=fg) Bl BD Z Z Z bk cw.rd1 (Nat.zero_le _) SJ SI Aa ?_
 intro f1 ex fd a6 bm ak
 refine Aj ⟨AA.sub a6 fun b hb=>z1 _ hb,?_⟩
 have dn:fb.heap.size≤ex.heap.size:=a6.size
 have ac:=cv.keep (Av AW) a6 fun b hb hm=>by rcases ab b hm with h9|h9|h9;exact hdj.2.1 b h9 hb;(have:=hOv.high b hb;omega);(have:=hOv.high b hb;omega)
 have bn:=bl.keep (Av B6) a6 fun b hb hm=>hdj.2.2 b hm hb
 have d0:=BX.chg cx a6 hgn.2.2
 have bo:AA S w ex:=cy.trans (a6.sub hSv)
 have ek:=cz.more a6 hSv
 refine Jx.Tr Z ?_
 have ad:BG 46 177 2 (fc++(fd++S)) g ex.heap fa rg0 f1 (T.put c v):=⟨fc,Fg,fd,ac.up oM,bn.up oM,bm,⟨fun b hb hm=>by rcases ab b hb with h9|h9|h9;exact hdj.1 b h9 hm;(have:=hOg.high b hm;omega);(have:=hOg.high b hm;omega),fun b hb hm=>by rcases ak b hm with h8|h8;(rcases ab b hb with h9|h9|h9;exact hdj.2.1 b h9 h8;(have:=hOv.high b h8;omega);(have:=hOv.high b h8;omega));(have:=ac.high b hb;omega),fun b hm hb=>by rcases ak b hb with h8|h8;exact hdj.2.2 b hm h8;(have:=hOg.high b hm;omega)⟩,⟨fun hm=>by rcases ab g hm with h9|h9|h9;exact hgn.1 h9;omega;omega,hgn.2.1,fun hm=>by rcases ak g hm with h9|h9;exact hgn.2.2 h9;omega⟩,fun b hb=>z8 _ hb,fun b hb=>z1 _ (z1 _ (hSg b hb)),fun b hb=>z1 _ (z8 _ hb)⟩
 have bp:Dy S (fc++(fd++S)) w ex:=⟨fun b hb=>z1 _ (z1 _ hb),fun b hb=>by rcases zi.1 hb with hb|hb;(rcases ab b hb with h9|h9|h9;exact .inl (hSc b h9);(right;omega);(right;omega));rcases zi.1 hb with hb|hb;(rcases ak b hb with h9|h9;exact .inl (hSv b h9);(right;omega));exact .inl hb,fun b hb=>by rcases zi.1 hb with hb|hb;(have:=ac.high b hb;omega);rcases zi.1 hb with hb|hb;(exact bm.high b hb);(have:=hS b hb;omega),bo⟩
 refine Bb Z Aa<|Ak (p:=zP g) 1 FU Z Z Aa<|Ak (p:=An (zP g) 1) (b:=g) (o:=1) 1 Cb Z Z Aa (BH (k:=2) (w:=ex) TZ Z Z (Bn ad.slc) d0 sM Aa fun ez al el ax=>?_)
 replace ax:BX ez.heap g [vp,zI ip,fa,rg0,zN,rv0,zI (s0:Int),zI c0]:=ax
 have d1:AA S w ez:=bo.trans (al.sub (B2 hgS))
 have d2:=BG.chg ad al
 have d3:=bp.set hgS al
 have dp:ex.heap.size≤ez.heap.size:=al.size
 refine Bb Z Aa<|Ak (p:=zP g) 5 DK Z Z Aa (BH (k:=5) (w:=ez) H8 Z Z (Bn ad.slv) ax sM Aa fun fe am em an=>?_)
 replace an:BX fe.heap g [vp,zI ip,fa,rg0,zN,f1,zI (s0:Int),zI c0]:=an
 have en:AA S w fe:=d1.trans (am.sub (B2 hgS))
 have bq:=BG.chg d2 am
 have d4:=d3.set hgS am
 have dq:ez.heap.size≤fe.heap.size:=am.size
 exact Aj<|ZN [0,0,0,2,0,0,0] Z<|Ad 1 Z<|Bb Z Aa<|Ak (p:=zP g) 5 DK Z Z Aa<|Ae (p:=An (zP g) 5) (.inr Z) f1 AZ Z (an.ldp (i:=5) sM) Aa<|AP (v:=f1) Bl Z (BG.slv bq) Aa<|Bi (T.vals.length:Int) Z Z (Be MB MB) Aa<|Ac 1 Z<|A1<|Af [6] Z (zI (T.vals.length:Int)) Z ⟨_,(by rfl),d4,⟨_,_,_,an,bq⟩⟩
def YO (F d:Nat):Prop:=∀(w:World) (S:List Nat) (g:Nat) (vp:Value) (dp:Nat) (ip:Int) (s0:Nat) (c0:Int) (p:List Fn) (T:Tp) (ve:Value) (ex:Ex) (vv:Value) (env:List Int) (hS:∀b∈S,b<w.heap.size) (hgS:g∈S) (hR0:Qs 46 177 2 S g w.heap vp ip T s0 c0) (hp:RP S dp w.heap vp p) (_hip:Bk ip) (hs0:s0≤3000) (hc0:0≤c0∧c0≤9) (hbd:FT T s0) (hex:RX S d w.heap ve ex) (henv:RN S (B5 rI) w.heap vv env) (hqenv:BV vv)
  (hvp:FY p) (hF:F≤p.length) (hwf:wf p ((F:Nat):Int) ex ((env.length:Nat):Int)=true) (hdp:env.length+ex.deep≤1000000) (hen:c0=0→FD T env),
  Calls Tryz.prog 118 #[.pointer (some ⟨g,0,none⟩),.agg #[.int .i64 ex.kind,.int .i64 ex.num,.int .i64 ex.pick,.int .i64 ex.count,ve],vv] w (fun e w'=>∃(r:Int) (S':List Nat) (T':Tp) (s1:Nat) (c1:Int),e=.returned (.int .i64 r)∧Dy S S' w w'∧Qs 46 177 2 S' g w'.heap vp ip T' s1 c1∧Uo T T' s0 s1 c1∧(c1=0→0≤r∧r<((T'.vals.length:Nat):Int))∧(Bk r)∧AM (go c0 (DV (Gs p F) ex env s0 T)) (r,T') s1 c1)
def ZW (F d:Nat):Prop:=∀(w:World) (S:List Nat) (g:Nat) (vp:Value) (dp:Nat) (ip:Int) (s0:Nat) (c0:Int) (p:List Fn) (T:Tp) (vl:Value) (l:List Ex) (vv:Value) (env:List Int) (hS:∀b∈S,b<w.heap.size) (hgS:g∈S) (hR0:Qs 46 177 2 S g w.heap vp ip T s0 c0) (hp:RP S dp w.heap vp p) (_hip:Bk ip) (hs0:s0≤3000) (hc0:0≤c0∧c0≤9) (hbd:FT T s0) (hl:RN S (Cj 5 (H0 d)) w.heap vl l) (henv:RN S (B5 rI) w.heap vv env) (hqenv:BV vv)
  (hvp:FY p) (hF:F≤p.length) (hwf:∀k,k<l.length→wf p ((F:Nat):Int) (l.getD k Ex.zero) ((env.length:Nat):Int)=true) (hdp:∀k,k<l.length→env.length+(l.getD k Ex.zero).deep≤1000000) (hll:l.length≤1000000) (hen:c0=0→FD T env),
  Calls Tryz.prog 59 #[.pointer (some ⟨g,0,none⟩),vl,vv] w (fun e w'=>∃(v:Value) (xs:List Int) (S':List Nat) (T':Tp) (s1:Nat) (c1:Int),e=.returned v∧Dy S S' w w'∧Qs 46 177 2 S' g w'.heap vp ip T' s1 c1∧Uo T T' s0 s1 c1∧Or S' w.heap.size (B5 rI) w'.heap v xs∧BV v∧xs.length=l.length∧(c1=0→FD T' xs)∧AM (go c0 (E2 (Gs p F) l env s0 T)) (xs,T') s1 c1)
theorem I6 (w:World)(S:List Nat)(F:Nat)(g:Nat)(vp:Value)(dp:Nat)(ip:Int)(s0:Nat)(c0:Int)(p:List Fn)(T:Tp)(dl:Nat)(vl:Value)(l:List Ex)(vv:Value)(env:Sr)(hS:∀b∈S,b<w.heap.size)(hgS:g∈S)(hR0:Qs 46 177 2 S g w.heap vp ip T s0 c0)(hp:RP S dp w.heap vp p)(_hip:Bk ip)(hs0:s0≤3000)(hc0:0≤c0∧c0≤9)(hbd:FT T s0)(hl:RN S (Cj 5 (H0 dl)) w.heap vl l)(henv:RN S (B5 rI) w.heap vv env)(hqenv:BV vv)(hvp:FY p)(hF:F≤p.length)(hwf:∀k,k<l.length→wf p (F:Int) (l.getD k Ex.zero) (env.length:Int)=true)(hdp:∀k,k<l.length→env.length+(l.getD k Ex.zero).deep≤1000000)(hll:l.length≤1000000)(hen:c0=0→FD T env)(IHv:∀d',d'<dl→YO F d') :
  Calls Tryz.prog 59 #[zP g,vl,vv] w (fun e w'=>∃(v:Value) (xs:Sr) (S':List Nat) (T':Tp) (s1:Nat) (c1:Int),e=.returned v∧Dy S S' w w'∧Qs 46 177 2 S' g w'.heap vp ip T' s1 c1∧Uo T T' s0 s1 c1∧Or S' w.heap.size (B5 rI) w'.heap v xs∧BV v∧xs.length=l.length∧(c1=0→FD T' xs)∧AM (go c0 (E2 (Gs p F) l env s0 T)) (xs,T') s1 c1):=by
 refine As [zP g,vl,vv] 26 Tryz.func59 Z Z sM ?_
 have bd:AA S w w:=AA.refl S w
 have ce:=hp.lenle
 unfold maxLen at ce
 have cf:=hl.lenle
 unfold maxLen at cf
 have cg:=henv.lenL
 unfold maxLen at cg
 obtain⟨rc0,rg0,rv0,be,bf⟩:=hR0
 have cu:=be.lt
 have hG0:Dy S S w w:=Dy.refl hS
 refine ZO Z<|ZN [3,0] Z (Cp (rI) AK Bl BD Aa fun v1 w1 ab bs bg=>?_)
 have ao:w.heap.size≤w1.heap.size:=ab.size
 have bh:AA S w w1:=bd.ext ab
 have ae:=be.ext ab
 have bi:=BG.ext bf ab
 have bj:=hG0.ext ab
 refine Ac 1 Z<|A0<|ZN [0,0,0] Z<|Ad 1 Z<|AP (v:=vl) CB Z hl.isSl Aa<|Ac 1 Z<|A3 ?_
 obtain⟨Fo0,af⟩:=Ow.of_fr bg (A7 _)
 have ap:∀b∈Fo0,b∉S:=fun b hb hm=>by have:=af.low b hb;have:=hS b hm;omega
 have hMs:=bi
 have hGs:=bj
 refine AT (S:=Nat×Value×Sr×List Nat×List Nat×Tp×Nat×Int×Value×Value×Value) (fun⟨k,vo,xs,Fo,S9,T9,s9,c9,ch,vg9,vv9⟩=>([(7,vo),(13,zI (k:Int)),(0,zP g),(2,vv),(11,vl),(12,zI (l.length:Int))])) (fun⟨k,vo,xs,Fo,S9,T9,s9,c9,ch,vg9,vv9⟩ W=>AA S w W∧BX W.heap g [vp,zI ip,ch,vg9,zN,vv9,zI (s9:Int),zI c9]∧k≤l.length∧Dy S S9 w W∧BG 46 177 2 S9 g W.heap ch vg9 vv9 T9∧Uo T T9 s0 s9 c9∧Ow (Bo rI 2) w.heap.size W.heap.size W.heap vo xs Fo∧(∀b∈Fo,b∉S9)∧xs.length=k∧(c9=0→c0=0)∧(c9=0→FD T9 xs)∧AM (go c0<|E2 (Gs p F) (l.take k) env s0 T) (xs,T9) s9 c9) (fun⟨k,vo,xs,Fo,S9,T9,s9,c9,ch,vg9,vv9⟩=>l.length-k) (0,v1,[],Fo0,S,T,s0,c0,rc0,rg0,rv0) ⟨rfl,rfl,rfl,rfl,rfl,rfl,trivial⟩ ⟨bh,ae,sD,hGs,hMs,(by exact⟨hbd,zO⟩),af,ap,(by rfl),(by exact fun h=>h),(by exact fun _=>FD.nil _),(by exact KY _ _ _ _ _ _)⟩ ?_
 clear bd bf hG0 bg bs ab ao bh bi bj
 rintro⟨k,vo,xs,Fo,S9,T9,s9,c9,ch,vg9,vv9⟩ ρ3 w3 ⟨aq,a3,bk,hGl,hMl,hPl,hOl,hdl,hxl,hzl,hxb,hrl⟩
 have bt:w.heap.size≤w3.heap.size:=aq.size
 have c7:=a3.lt
 have hnl:=hPl.num
 have hbl:=hPl.bnd
 refine ZN [0] Z ?_
 by_cases bl:(k:Int)<(l.length:Int)
 ·refine AE true Z Z (A5 bl) Aa<|Aj<|A0<|Ah Z<|A2<|A0<|A3<|ZN [0,2,3,4] Z ?_
  have hkl:k<l.length:=by omega
  refine Au (v:=vl) k CB Bf Z Z hl.isSl Z sD Aa ?_
  obtain⟨cs6,bu,bv⟩:=hl.get (Aq dl) Ex.zero (k:=k) sD
  obtain⟨dd6,ac,c8,rfl,am⟩:=RX.of bu
  have ar:=am.rn.lenle
  unfold maxLen at ar
  refine AJ (p:=Aw vl k 5) (.inr Z) [zI<|(l.getD k Ex.zero).kind,zI<|(l.getD k Ex.zero).num,zI<|(l.getD k Ex.zero).pick,zI<|(l.getD k Ex.zero).count,ac] Bx Z (fun cl au=>bv cl<|aq.ext au) Z Aa ?_
  have ca:=a3.lt
  refine Br (z:=.agg #[zI 0,zI 0,zI 0,zI 0,zN]) K9 Aa fun w7 ad cb av=>?_
  have bw:w3.heap.size≤w7.heap.size:=ad.size
  have bx:AA S w w7:=aq.ext ad
  have a7:=a3.ext ad
  have bz:=BG.ext hMl ad
  have c2:=hGl.ext ad
  have hO10k:=hOl.ext (AY AK) ad
  replace av:BX w7.heap w3.heap.size [zI 0,zI 0,zI 0,zI 0,zN]:=av
  refine Ce (vs:=[zI<|(l.getD k Ex.zero).kind,zI<|(l.getD k Ex.zero).num,zI<|(l.getD k Ex.zero).pick,zI<|(l.getD k Ex.zero).count,ac]) Bx Z Z am.ones av Z Z Aa fun cc a4 c3 a8=>?_
  replace a8:BX cc.heap w3.heap.size [zI ((l.getD k Ex.zero).kind),zI ((l.getD k Ex.zero).num),zI ((l.getD k Ex.zero).pick),zI ((l.getD k Ex.zero).count),ac]:=a8
  have a9:AA S w cc:=bx.fresh a4 (fun _ h=>zE h)
  have aw:=BG.chgO bz a4 fun b hb hm=>by rw[A9 hb]at hm;exact(zH<|hGl.lt _ hm)
  have a1:=c2.fresh a4 fun _ h=>zE h
  have bm:w7.heap.size≤cc.heap.size:=a4.size
  have ax:=a7.chg a4 (zB ·)
  have ag:=hO10k.keep (AY AK) a4 fun b hb hm=>by have:=A9 hb;have:=hO10k.low _ hm;have:=hO10k.high _ hm;omega
  refine Aj<|Ab _ [0,0,2,0,4,3,4,0] Z<|Ad 2 Z<|AJ (p:=zP w3.heap.size) (.inr Z) [zI<|(l.getD k Ex.zero).kind,zI<|(l.getD k Ex.zero).num,zI<|(l.getD k Ex.zero).pick,zI<|(l.getD k Ex.zero).count,ac] Bx Z (fun cl au=>LD.of_box<|BX.ext (w:=cc) a8 au) Z Aa<|Ad 1 Z ?_
  refine AI 118 [] [] [zP g,.agg #[zI<|(l.getD k Ex.zero).kind,zI<|(l.getD k Ex.zero).num,zI<|(l.getD k Ex.zero).pick,zI<|(l.getD k Ex.zero).count,ac],vv] Z Z Lg Aa (IHv dd6 oM _ S9 g vp dp ip (s9) (c9) p (T9) ac (l.getD k Ex.zero) vv (env) (fun b hb=>(a1.lt b hb:b<cc.heap.size)) (a1.sub _ hgS) ⟨_,_,_,ax,aw⟩ (RN.stp (Al<|Ax dp) hp a9 a1.new) _hip oM oM hbl ⟨am.rng,RN.stp (Al<|Aq dd6) am.rn a9 a1.new⟩ (RN.stp g1 henv a9 a1.new) hqenv hvp oM (by exact hwf k hkl) (by exact hdp k hkl) (by intro h9;exact(hen<|hzl h9).mono oM)) ?_
  rintro cv cd ⟨cm,ci,cn,co,cp,rfl,a0,⟨cj,vg18,vv18,ay,az⟩,ah,ai,aj,ak⟩
  refine⟨_,rfl,?_⟩
  have bn:cc.heap.size≤cd.heap.size:=a0.chg.size
  have b0:AA S w cd:=a9.stp a0.chg a1.new
  have b1:=ag.keep (AY AK) a0.chg fun b hb hm=>hdl b hm hb
  have a5:∀b∈Fo,b∉ci:=fun b hb hm=>(a0.new b hm).elim (hdl b hb) (fun h9=>zH<|ag.high b hb)
  have b2:=a8.chg a0.chg fun hm=>(zH<|hGl.lt _ hm)
  have b3:w3.heap.size∉ci:=fun hm=>(a0.new _ hm).elim (fun hm=>(zH<|hGl.lt _ hm)) (fun h9=>by omega)
  have b4:=a1.trans a0
  have bo:=ah.bnd
  have bp:=ah.num
  have hcz:=fun h9=>Xf ak h9
  have hrv:=ai
  refine (By (u:=zI cm) (B:=cd.heap.size) AK Bl BD Z Z (Mb cd.heap.size cd.heap.size _ _ aj) (A7 _) Aa ?_)
  intro cs ck a2 c4 b5
  have bq:cd.heap.size≤ck.heap.size:=a2.size
  have b6:AA S w ck:=b0.ext a2
  have aa:=ay.ext a2
  have an:=b2.ext a2
  have b7:=BG.ext az a2
  have al:=b4.ext a2
  have hO29k:=b1.ext (AY AK) a2
  refine ER (v:=vo) (a:=cs) Bl BD Z Z Z hO29k b5.rd1 oM sD (by unfold maxLen;first|omega|assumption|(simp;done)|(simp;omega)) Aa fun ct cq cr a6 c5 b8=>?_
  have br:ck.heap.size≤cq.heap.size:=a6.size
  have b9:AA S w cq:=b6.fresh a6 (fun c hc=>zH<|hO29k.low c hc)
  have c6:∀b∈cr,b∉ci:=fun b hb hm=>(b8 b hb).elim (fun h9=>a5 b h9 hm) (fun h9=>zH<|al.lt b hm)
  have ba:=BG.chgO b7 a6 a5
  have bb:=al.fresh a6 fun c hc=>zH<|hO29k.low c hc
  have bc:=aa.chg a6 fun hm=>zH<|hO29k.low _ hm
  refine Ac 1 Z<|Ab _ [0,0] Z<|AQ ((k+1:Nat):Int) Z Z (Be oM oM) Aa<|Ac 1 Z ?_
  have hMe:=ba
  have hGe:=bb
  have hPe:Uo T cn s0 co cp:=⟨by assumption,zO⟩
  exact⟨(k+1,ct,xs++[cm],cr,ci,cn,co,cp,cj,vg18,vv18),_,rfl,zR,⟨b9,bc,sD,hGe,hMe,hPe,(by assumption),(by assumption),(by rw[z4,zd,hxl]),(by exact fun h9=>hzl (hcz h9)),(by exact fun h9=>FD.snoc ((hxb (hcz h9)).mono oM) (hrv h9)),(by exact Tx oM hrl (by assumption))⟩,zD⟩
 exact AE false Z Z (A6 bl) Aa<|Aj<|A0<|Ai Z<|A4<|Ay<|Ay<|At<|ZN [0,0] Z<|Ac 2 Z<|A1<|Af [6] Z vo Z ⟨vo,xs,_,T9,s9,c9,rfl,hGl,⟨_,_,_,a3,hMl⟩,⟨hbl,oM⟩,Or.of_ow hOl hdl,hOl.fr.cap,oM,hxb,(by rw[za oM]at hrl;exact hrl)⟩
theorem EW (w:World)(v:Value)(n:Nat)(hs:Fu v n)(hcs:BV v)  :
  Calls Tryz.prog 169 #[v] w (fun e w'=>e=.returned (DR v)∧w'=w):=by
 refine As [v] 9 Tryz.func169 Z Z sM ?_
 have a0:w=w:=rfl
 exact ZO Z<|ZN [0,0,0,0,0,0,0] Z<|Ad 2 Z<|AP (v:=v) Bl Z hs Aa<|Ad 1 Z<|AP (v:=v) Bl Z hs Aa<|QJ (v:=v) Bl BD Z hs Z Z hcs Aa<|Ac 1 Z<|A1<|Af [2] Z (DR v) Z ⟨rfl,a0⟩
theorem JN {p:Prop}(h:p:=by first|rw[(Rg (k:=c_op) (a:=a) (b:=b) oM).1,(Rg (k:=c_op) (a:=a) (b:=b) oM).2] <;> rfl|rw[(Rh (k:=c_op) (a:=a) (b:=b) oM).1,(Rh (k:=c_op) (a:=a) (b:=b) oM).2] <;> rfl|rw[(Ri (k:=c_op) (a:=a) (b:=b) oM).1,(Ri (k:=c_op) (a:=a) (b:=b) oM).2] <;> rfl|rw[(Rj (k:=c_op) (a:=a) (b:=b) oM).1,(Rj (k:=c_op) (a:=a) (b:=b) oM).2] <;> rfl|rw[(Pu (k:=c_op) (a:=a) (b:=b) oM oM).1,(Pu (k:=c_op) (a:=a) (b:=b) oM oM).2] <;> rfl|rw[(Rk (k:=c_op) (a:=a) (b:=b) oM oM).1,(Rk (k:=c_op) (a:=a) (b:=b) oM oM).2] <;> rfl):p:=h
theorem H5 (w:World)(c_op c_a c_b c_n:Int)(a:Int)(b:Int)(_hc_op:Bk c_op)(_hc_a:Bk c_a)(_hc_b:Bk c_b)(_hc_n:Bk c_n)(_ha:Bk a)(_hb:Bk b)(hop:3≤c_op∧c_op≤7) :
  Calls Tryz.prog 211 #[(.agg #[(zI c_op),(zI c_a),(zI c_b),(zI c_n)]),zI a,zI b] w (fun e w'=>e=.returned (.tuple #[zI (if E3 c_op b then 0 else FN c_op a b),.bool (!decide (E3 c_op b))])∧AF w w'):=by
 refine As [.agg #[zI c_op,zI c_a,zI c_b,zI c_n],zI a,zI b] 35 Tryz.func211 Z Z sM ?_
 have a8:AF w w:=AF.refl w
 refine ZN [3,0,0] Z (Bj (cs:=#[zI c_op,zI c_a,zI c_b,zI c_n]) Z Aa fun w1 a3 aa a2=>?_)
 have a9:=a3.size
 have a0:=a8.trans a3
 replace a2:BX w1.heap w.heap.size [zI c_op,zI c_a,zI c_b,zI c_n]:=a2
 refine Ac 2 Z<|A0<|ZN [0,2] Z<|Ak (p:=zP w.heap.size) 0 GR Z Z Aa<|Ae (p:=An (zP w.heap.size) 0) (.inr Z) (zI c_op) AC Z (a2.ldp (i:=0) sM) Aa<|Aj<|A3<|ZN [0,0] Z ?_
 by_cases a4:c_op=((3:Nat):Int)
 ·refine Ap true Z Z (A5 a4) Aa<|Ac 1 Z<|Ah Z<|ZN [0,0,0,0,0] Z<|Ad 2 Z<|AB 176 [] [] [zI a,zI b] Z Z Sj Aa (zI<|md (a+b)) (fun wq=>Hv wq _ _ _ha _hb)<|Ac 2 Z<|A1<|AH<|Ao ?_
  exact Af [6,7] Z (.tuple #[zI<|md (a+b),.bool true]) Z ⟨JN,a0⟩
 refine Ap false Z Z (A6 a4) Aa<|Ac 1 Z<|Ai Z<|ZN [0,0] Z ?_
 by_cases a5:c_op=((4:Nat):Int)
 ·refine Ap true Z Z (A5 a5) Aa<|Ac 1 Z<|Ah Z<|ZN [0,0,0,0,0] Z<|Ad 2 Z<|AB 213 [] [] [zI a,zI b] Z Z So Aa (zI<|md (a-b)) (fun wq=>GU wq _ _ _ha _hb)<|Ac 2 Z<|A1<|AH<|Ao ?_
  exact Af [6,7] Z (.tuple #[zI<|md (a-b),.bool true]) Z ⟨JN,a0⟩
 refine Ap false Z Z (A6 a5) Aa<|Ac 1 Z<|Ai Z<|ZN [0,0] Z ?_
 by_cases a6:c_op=((5:Nat):Int)
 ·refine Ap true Z Z (A5 a6) Aa<|Ac 1 Z<|Ah Z<|ZN [0,0,0,0,0] Z<|Ad 2 Z<|AB 237 [] [] [zI a,zI b] Z Z US Aa (zI<|md (a*b)) (fun wq=>Jh wq _ _ _ha _hb)<|Ac 2 Z<|A1<|AH<|Ao ?_
  exact Af [6,7] Z (.tuple #[zI<|md (a*b),.bool true]) Z ⟨JN,a0⟩
 refine Ap false Z Z (A6 a6) Aa<|Ac 1 Z<|Ai Z<|ZN [0,0] Z ?_
 by_cases a7:c_op=((7:Nat):Int)
 ·refine Ap true Z Z (A5 a7) Aa<|Ac 1 Z<|Ah Z<|ZN [0,0,0,0] Z<|Ad 1 Z<|AB 213 [] [] [zI ((0:Nat):Int),zI a] Z Z So Aa (zI<|md (((0:Nat):Int)-a)) (fun wq=>GU wq _ _ oM _ha)<|Ac 2 Z<|A1<|AH<|Ao ?_
  exact Af [6,7] Z (.tuple #[zI<|md (((0:Nat):Int)-a),.bool true]) Z ⟨JN,a0⟩
 refine Ap false Z Z (A6 a7) Aa<|Ac 1 Z<|Ai Z<|A2<|A0<|ZN [0,0] Z<|Ad 1 Z ?_
 by_cases a1:b=((0:Nat):Int)
 ·refine Ap true Z Z (A5 a1) Aa<|Aj<|Ah Z<|ZN [0,0] Z<|Ac 2 Z<|A1<|Ao ?_
  exact Af [6,7] Z (.tuple #[zI ((0:Nat):Int),.bool false]) Z ⟨JN,a0⟩
 refine Ap false Z Z (A6 a1) Aa<|Aj<|Ai Z<|A2<|ZN [0,0,0,0,0,0] Z<|Ad 2 Z<|AB 212 [] [] [zI b] Z Z UO Aa (zI<|inv b) (fun wq=>Hw wq _ _hb)<|AB 237 [] [] [zI a,zI<|inv b] Z Z US Aa (zI<|md (a*(inv b))) (fun wq=>Jh wq _ _ _ha<|MJ _)<|Ac 2 Z<|A1 ?_
 exact Af [6,7] Z (.tuple #[zI<|md (a*(inv b)),.bool true]) Z ⟨JN,a0⟩
theorem Ng {p:Prop}(h:p:=by first|exact Tz hc00 oM (Xg (by assumption))|exact TA hc00 oM (Z7 (by assumption))|exact TB hc00 oM|exact absurd (Xg (Q:=E3 op _) (by assumption)) (Un oM)):p:=h
theorem Nh {p:Prop}(h:p:=by first|(intro h9;exact absurd h9 oM)|(intro h9;omega)):p:=h
theorem Ni {p:Prop}(h:p:=by first|exact hbd.up oM|exact hbd.put _ hvr):p:=h
theorem Ec {p:Prop}(h:p:=by have:=hG0.lt _ hm;omega):p:=h
theorem FP (w:World)(S:List Nat)(g:Nat)(vp:Value)(dp:Nat)(ip:Int)(s0:Nat)(c0:Int)(p:List Fn)(T:Tp)(op:Int)(vk:Value)(ks:Sr)(hS:∀b∈S,b<w.heap.size)(hgS:g∈S)(hR0:Qs 46 177 2 S g w.heap vp ip T s0 c0)(hp:RP S dp w.heap vp p)(_hip:Bk ip)(hs0:s0≤3000)(hc0:0≤c0∧c0≤9)(hbd:FT T s0)(_hop:Bk op)(hks:RN S (B5 rI) w.heap vk ks)(hqks:BV vk)(hop:3≤op∧op≤7)(hkl:1≤ks.length∧(op≠7→2≤ks.length))(hen:FD T ks)(hc00:c0=0) :
  Calls Tryz.prog 170 #[zP g,zI op,vk] w (fun e w'=>∃(r:Int) (S':List Nat) (T':Tp) (c1:Int),e=.returned (zI r)∧Dy S S' w w'∧Qs 46 177 2 S' g w'.heap vp ip T' s0 c1∧FT T' (s0+1)∧((0≤c1∧c1≤9)∧T.vals.length≤T'.vals.length∧T'.vals.length≤T.vals.length+1∧T'.grd.length=T.grd.length)∧(c1=0→0≤r∧r<(T'.vals.length:Int))∧(Bk r)∧AM (go c0 (OJ op ks s0 T)) (r,T') s0 c1):=by
 refine As [zP g,zI op,vk] 51 Tryz.func170 Z Z sM ?_
 have bi:AA S w w:=AA.refl S w
 have cd:=hp.lenle
 unfold maxLen at cd
 have cg:=hks.lenL
 unfold maxLen at cg
 obtain⟨rc0,rg0,rv0,b0,bv⟩:=hR0
 have cw:=b0.lt
 have hG0:Dy S S w w:=Dy.refl hS
 have ch:=hen 0 oM
 have hbn:=hbd.ln hs0
 refine ZO Z<|ZN [0,0,0,2,0,3,4] Z<|Ad 2 Z<|Au (v:=vk) 0 Bl BD Z Z hks.slL Z sD Aa ?_
 have am:=RN.getI (w:=w) (k:=0) hks sD
 refine Ae (p:=Aw vk 0 1) (.inr Z) (zI<|ks.getD 0 0) AC Z (am.1 _ bi) Aa ?_
 have b1:∀(wq:World),(Instr.build 46 #[(0,zI op),(1,zI (ks.getD 0 0))]).run Tryz.prog wq=.ok (.agg #[zI op,zI (ks.getD 0 0),zI 0,zI 0]) wq:=by intro wq;kernel_rfl
 refine CI (ps:=#[(0,zI op),(1,zI<|ks.getD 0 0)]) (.agg #[zI op,zI<|ks.getD 0 0,zI 0,zI 0]) (by simp only[zc,zf,zh];rfl) (fun wq=>b1  wq) Aa ?_
 have ci:=b0.lt
 refine Br (z:=.agg #[zI 0,zI 0,zI 0,zI 0]) OS Aa fun w3 an cj b2=>?_
 have bw:w.heap.size≤w3.heap.size:=an.size
 have bx:AA S w w3:=bi.ext an
 have ao:=b0.ext an
 have bz:=BG.ext bv an
 have c2:=hG0.ext an
 replace b2:BX w3.heap w.heap.size [zI 0,zI 0,zI 0,zI 0]:=b2
 refine Ce (vs:=[zI op,zI<|ks.getD 0 0,zI (0:Int),zI (0:Int)]) DE Z Z (by intro u hu;simp only[ze,z2,or_false]at hu;rcases hu with rfl|rfl|rfl|rfl <;> first|exact⟨rfl,rfl⟩) b2 Z Z Aa fun w6 ap ck ag=>?_
 replace ag:BX w6.heap w.heap.size [zI op,zI (ks.getD 0 0),zI (0:Int),zI (0:Int)]:=ag
 have b3:AA S w w6:=bx.fresh ap (fun _ h=>zE h)
 have af:=BG.chgO bz ap fun b hb hm=>by rw[A9 hb]at hm;exact Ec
 have bj:=c2.fresh ap fun _ h=>zE h
 have c3:w3.heap.size≤w6.heap.size:=ap.size
 have az:=ao.chg ap (zB ·)
 refine Aj<|A0<|ZN [0,0] Z<|Ad 1 Z ?_
 by_cases aq:op≠((7:Nat):Int)
 ·refine AU true Z Z (A5 aq) Aa<|Aj<|Ah Z<|Ab _ [0,0,2,0,4] Z ?_
  have cl:=hen 1 oM
  refine Ad 1 Z<|Au (v:=vk) 1 Bl BD Z Z hks.slL Z sD Aa ?_
  have ah:=RN.getI (w:=w) (k:=1) hks sD
  refine Ae (p:=Aw vk 1 1) (.inr Z) (zI<|ks.getD 1 0) AC Z (ah.1 _ b3) Aa<|Ak (p:=zP w.heap.size) 2 Bu Z Z Aa (BH (k:=2) (w:=w6) I3 Z Z ⟨rfl,rfl⟩ ag sM Aa fun cm a9 c4 a8=>?_)
  replace a8:BX cm.heap w.heap.size [zI op,zI (ks.getD 0 0),zI (ks.getD 1 0),zI (0:Int)]:=a8
  have b4:AA S w cm:=b3.fresh a9 (fun _ h=>zE h)
  have a3:=BG.chgO af a9 fun b hb hm=>by rw[A9 hb]at hm;exact Ec
  have b5:=bj.fresh a9 fun _ h=>zE h
  have bk:w6.heap.size≤cm.heap.size:=a9.size
  have ai:=az.chg a9 (zB ·)
  refine Aj<|A0<|AO _ [1,0,0,0,1,0,1,0,1,0,0,0,1,0,1,0,1,3,0,0,0,0,0] mixed (by kernel_rfl)<|AJ (p:=zP w.heap.size) (.inl Z) [zI op,zI<|ks.getD 0 0,zI<|ks.getD 1 0,zI (0:Int)] DE Z (fun cn aj=>LD.of_box<|BX.ext (w:=cm.drew) a8 aj) Z Aa<|Ad 1 Z<|Bb Z Aa<|Ak (p:=zP g) 5 DK Z Z Aa<|Ae (p:=An (zP g) 5) (.inl Z) rv0 AZ Z (ai.ldp (i:=5) sM) Aa<|Ak (p:=zP w.heap.size) 1 Bt Z Z Aa ?_
  refine Ae (p:=An (zP w.heap.size) 1) (.inl Z) (zI<|ks.getD 0 0) AC Z (a8.ldp (i:=1) sM) Aa<|Au (v:=rv0) ((ks.getD 0 0).toNat) Bl BD Z Z (BG.slv a3) oM oM Aa (Ae (p:=Aw rv0 ((ks.getD 0 0).toNat) 1) (.inl Z) (zI<|T.vals.getD ((ks.getD 0 0).toNat) 0) AC Z ((BG.rdv a3).getI oM).1 Aa (Ad 1 Z<|Bb Z Aa<|Ak (p:=zP g) 5 DK Z Z Aa<|Ae (p:=An (zP g) 5) (.inl Z) rv0 AZ Z (ai.ldp (i:=5) sM) Aa<|Ak (p:=zP w.heap.size) 2 Bu Z Z Aa ?_))
  refine Ae (p:=An (zP w.heap.size) 2) (.inl Z) (zI<|ks.getD 1 0) AC Z (a8.ldp (i:=2) sM) Aa<|Au (v:=rv0) ((ks.getD 1 0).toNat) Bl BD Z Z (BG.slv a3) oM oM Aa (Ae (p:=Aw rv0 ((ks.getD 1 0).toNat) 1) (.inl Z) (zI<|T.vals.getD ((ks.getD 1 0).toNat) 0) AC Z ((BG.rdv a3).getI oM).1 Aa (Am 211 [] [] [.agg #[zI op,zI<|ks.getD 0 0,zI<|ks.getD 1 0,zI (0:Int)],zI<|T.vals.getD ((ks.getD 0 0).toNat) 0,zI<|T.vals.getD ((ks.getD 1 0).toNat) 0] Z Z UN Aa (H5 _ (op) (ks.getD 0 0) (ks.getD 1 0) (0:Int) _ _ _hop am.2 ah.2 oM ((BG.rdv a3).getI oM).2 ((BG.rdv a3).getI oM).2 oM) ?_))
  rintro cx c7 ⟨rfl,a0⟩
  refine⟨_,rfl,a0,?_⟩
  replace a0:=a0.of_drew
  have bl:cm.heap.size≤c7.heap.size:=a0.size
  have ar:AA S w c7:=b4.ext a0
  have a7:=ai.ext a0
  have a2:=a8.ext a0
  have c5:=(BG.rdv a3).ext g1 a0
  have au:=BG.ext a3 a0
  have aa:=b5.ext a0
  refine Ad 1 Z<|B7 (vs:=[zI (if E3 op (T.vals.getD ((ks.getD 1 0).toNat) 0)then 0 else FN op (T.vals.getD ((ks.getD 0 0).toNat) 0) (T.vals.getD ((ks.getD 1 0).toNat) 0)),.bool (!decide (E3 op<|T.vals.getD ((ks.getD 1 0).toNat) 0))]) (zI (if E3 op (T.vals.getD ((ks.getD 1 0).toNat) 0)then 0 else FN op (T.vals.getD ((ks.getD 0 0).toNat) 0) (T.vals.getD ((ks.getD 1 0).toNat) 0))) Z Z Aa<|B7 (vs:=[zI (if E3 op (T.vals.getD ((ks.getD 1 0).toNat) 0)then 0 else FN op (T.vals.getD ((ks.getD 0 0).toNat) 0) (T.vals.getD ((ks.getD 1 0).toNat) 0)),.bool (!decide (E3 op<|T.vals.getD ((ks.getD 1 0).toNat) 0))]) (.bool (!decide (E3 op<|T.vals.getD ((ks.getD 1 0).toNat) 0))) Z Z Aa<|Ac 2 Z<|A0<|ZN [0,0] Z ?_
  have hvr:0≤(if E3 op (T.vals.getD ((ks.getD 1 0).toNat) 0)then 0 else FN op (T.vals.getD ((ks.getD 0 0).toNat) 0) (T.vals.getD ((ks.getD 1 0).toNat) 0))∧(if E3 op (T.vals.getD ((ks.getD 1 0).toNat) 0)then 0 else FN op (T.vals.getD ((ks.getD 0 0).toNat) 0) (T.vals.getD ((ks.getD 1 0).toNat) 0))<1000003:=Pv _ _ _
  refine Ad 1 Z<|Bd (!(!decide (E3 op<|T.vals.getD ((ks.getD 1 0).toNat) 0))) Z Z Aa<|Aj ?_
  cases av:(!(!decide (E3 op (T.vals.getD ((ks.getD 1 0).toNat) 0))))
  ·refine Ai (by first|rfl|exact zW av)<|A2<|ZN [0,2,0,4,0] Z<|Ad 1 Z<|AJ (p:=zP w.heap.size) (.inr Z) [zI op,zI<|ks.getD 0 0,zI<|ks.getD 1 0,zI (0:Int)] DE Z (fun cn aj=>LD.of_box<|BX.ext (w:=c7) a2 aj) Z Aa<|Ad 1 Z ?_
   refine AI 58 [] [] [zP g,.agg #[zI op,zI<|ks.getD 0 0,zI<|ks.getD 1 0,zI (0:Int)],zI (if E3 op (T.vals.getD ((ks.getD 1 0).toNat) 0)then 0 else FN op (T.vals.getD ((ks.getD 0 0).toNat) 0) (T.vals.getD ((ks.getD 1 0).toNat) 0))] Z Z TW Aa (CK _ S g vp ip (s0) (c0) (T) (⟨op,ks.getD 0 0,ks.getD 1 0,(0:Int)⟩:Az) (if E3 op (T.vals.getD ((ks.getD 1 0).toNat) 0)then 0 else FN op (T.vals.getD ((ks.getD 0 0).toNat) 0) (T.vals.getD ((ks.getD 1 0).toNat) 0)) (fun b hb=>(aa.lt b hb:b<c7.heap.size)) (aa.sub _ hgS) ⟨_,_,_,a7,au⟩ _hip (by exact hbd.ln hs0) ⟨_hop,am.2,ah.2,(show Bk (0:Int)from by omega)⟩ (by have:=J6 op (T.vals.getD ((ks.getD 0 0).toNat) 0) (T.vals.getD ((ks.getD 1 0).toNat) 0);split <;> omega)) ?_
   rintro cy cq ⟨cs,rfl,a4,ct,vg20,vv20,b6,b7⟩
   refine⟨_,rfl,?_⟩
   have bm:c7.heap.size≤cq.heap.size:=a4.chg.size
   have c6:AA S w cq:=ar.stp a4.chg aa.new
   have b8:w.heap.size∉cs:=fun hm=>(a4.new _ hm).elim (fun hm=>Ec) (fun h9=>by omega)
   have b9:=aa.trans a4
   have bn:(T.put (⟨op,ks.getD 0 0,ks.getD 1 0,(0:Int)⟩:Az) (if E3 op (T.vals.getD ((ks.getD 1 0).toNat) 0)then 0 else FN op (T.vals.getD ((ks.getD 0 0).toNat) 0) (T.vals.getD ((ks.getD 1 0).toNat) 0))).vals.length=T.vals.length+1:=E4 _ _ _
   have bo:(T.put (⟨op,ks.getD 0 0,ks.getD 1 0,(0:Int)⟩:Az) (if E3 op (T.vals.getD ((ks.getD 1 0).toNat) 0)then 0 else FN op (T.vals.getD ((ks.getD 0 0).toNat) 0) (T.vals.getD ((ks.getD 1 0).toNat) 0))).grd.length=T.grd.length:=rfl
   exact Ac 1 Z<|A1<|Af [6] Z (zI (T.vals.length:Int)) Z ⟨(T.vals.length:Int),_,T.put (⟨op,ks.getD 0 0,ks.getD 1 0,(0:Int)⟩:Az) (if E3 op (T.vals.getD ((ks.getD 1 0).toNat) 0)then 0 else FN op (T.vals.getD ((ks.getD 0 0).toNat) 0) (T.vals.getD ((ks.getD 1 0).toNat) 0)),c0,rfl,b9,⟨_,_,_,b6,b7⟩,Ni,oM,Nh,oM,Ng⟩
  refine Ah (by first|rfl|exact zW av)<|ZN [0,0,0,4] Z<|Ad 1 Z<|Bb Z Aa<|Ak (p:=zP g) 7 Fl Z Z Aa (BH (k:=7) (w:=c7) I3 Z Z ⟨rfl,rfl⟩ a7 sM Aa fun co ab c8 ak=>?_)
  replace ak:BX co.heap g [vp,zI ip,rc0,rg0,zN,rv0,zI (s0:Int),zI ((6:Nat):Int)]:=ak
  have c9:AA S w co:=ar.trans (ab.sub (B2 hgS))
  have ba:=BG.chg au ab
  have bb:=aa.set hgS ab
  have bp:c7.heap.size≤co.heap.size:=ab.size
  exact Aj<|ZO Z<|A1<|Ao<|Af [6] Z (zI ((0:Nat):Int)) Z ⟨((0:Nat):Int),_,T,((6:Nat):Int),rfl,bb,⟨_,_,_,ak,ba⟩,Ni,oM,Nh,oM,Ng⟩
 refine AU false Z Z (A6 aq) Aa<|Aj<|Ai Z<|A2<|A0<|AO _ [1,0,0,0,1,0,1,0,1,0,0,0,1,0,1,0,1,3,0,0,0,0,0] mixed (by kernel_rfl)<|AJ (p:=zP w.heap.size) (.inl Z) [zI op,zI<|ks.getD 0 0,zI (0:Int),zI (0:Int)] DE Z (fun cn aj=>LD.of_box<|BX.ext (w:=w6.drew) ag aj) Z Aa<|Ad 1 Z<|Bb Z Aa<|Ak (p:=zP g) 5 DK Z Z Aa<|Ae (p:=An (zP g) 5) (.inl Z) rv0 AZ Z (az.ldp (i:=5) sM) Aa<|Ak (p:=zP w.heap.size) 1 Bt Z Z Aa ?_
 refine Ae (p:=An (zP w.heap.size) 1) (.inl Z) (zI<|ks.getD 0 0) AC Z (ag.ldp (i:=1) sM) Aa<|Au (v:=rv0) ((ks.getD 0 0).toNat) Bl BD Z Z (BG.slv af) oM oM Aa (Ae (p:=Aw rv0 ((ks.getD 0 0).toNat) 1) (.inl Z) (zI<|T.vals.getD ((ks.getD 0 0).toNat) 0) AC Z ((BG.rdv af).getI oM).1 Aa (Ad 1 Z<|Bb Z Aa<|Ak (p:=zP g) 5 DK Z Z Aa<|Ae (p:=An (zP g) 5) (.inl Z) rv0 AZ Z (az.ldp (i:=5) sM) Aa<|Ak (p:=zP w.heap.size) 2 Bu Z Z Aa ?_))
 refine Ae (p:=An (zP w.heap.size) 2) (.inl Z) (zI (0:Int)) AC Z (ag.ldp (i:=2) sM) Aa<|Au (v:=rv0) ((0:Int).toNat) Bl BD Z Z (BG.slv af) oM oM Aa (Ae (p:=Aw rv0 ((0:Int).toNat) 1) (.inl Z) (zI<|T.vals.getD ((0:Int).toNat) 0) AC Z ((BG.rdv af).getI oM).1 Aa (Am 211 [] [] [.agg #[zI op,zI<|ks.getD 0 0,zI (0:Int),zI (0:Int)],zI<|T.vals.getD ((ks.getD 0 0).toNat) 0,zI<|T.vals.getD ((0:Int).toNat) 0] Z Z UN Aa (H5 _ (op) (ks.getD 0 0) (0:Int) (0:Int) _ _ _hop am.2 oM oM ((BG.rdv af).getI oM).2 ((BG.rdv af).getI oM).2 oM) ?_))
 rintro cz ca ⟨rfl,a1⟩
 refine⟨_,rfl,a1,?_⟩
 replace a1:=a1.of_drew
 have bq:w6.heap.size≤ca.heap.size:=a1.size
 have aw:AA S w ca:=b3.ext a1
 have ac:=az.ext a1
 have a6:=ag.ext a1
 have cb:=(BG.rdv af).ext g1 a1
 have ax:=BG.ext af a1
 have ad:=bj.ext a1
 refine Ad 1 Z<|B7 (vs:=[zI (if E3 op (T.vals.getD ((0:Int).toNat) 0)then 0 else FN op (T.vals.getD ((ks.getD 0 0).toNat) 0) (T.vals.getD ((0:Int).toNat) 0)),.bool (!decide (E3 op<|T.vals.getD ((0:Int).toNat) 0))]) (zI (if E3 op (T.vals.getD ((0:Int).toNat) 0)then 0 else FN op (T.vals.getD ((ks.getD 0 0).toNat) 0) (T.vals.getD ((0:Int).toNat) 0))) Z Z Aa<|B7 (vs:=[zI (if E3 op (T.vals.getD ((0:Int).toNat) 0)then 0 else FN op (T.vals.getD ((ks.getD 0 0).toNat) 0) (T.vals.getD ((0:Int).toNat) 0)),.bool (!decide (E3 op<|T.vals.getD ((0:Int).toNat) 0))]) (.bool (!decide (E3 op<|T.vals.getD ((0:Int).toNat) 0))) Z Z Aa<|Ac 2 Z<|A0<|ZN [0,0] Z ?_
 have hvr:0≤(if E3 op (T.vals.getD ((0:Int).toNat) 0)then 0 else FN op (T.vals.getD ((ks.getD 0 0).toNat) 0) (T.vals.getD ((0:Int).toNat) 0))∧(if E3 op (T.vals.getD ((0:Int).toNat) 0)then 0 else FN op (T.vals.getD ((ks.getD 0 0).toNat) 0) (T.vals.getD ((0:Int).toNat) 0))<1000003:=Pv _ _ _
 refine Ad 1 Z<|Bd (!(!decide (E3 op<|T.vals.getD ((0:Int).toNat) 0))) Z Z Aa<|Aj ?_
 cases ay:(!(!decide (E3 op (T.vals.getD ((0:Int).toNat) 0))))
 ·refine Ai (by first|rfl|exact zW ay)<|A2<|ZN [0,2,0,4,0] Z<|Ad 1 Z<|AJ (p:=zP w.heap.size) (.inr Z) [zI op,zI<|ks.getD 0 0,zI (0:Int),zI (0:Int)] DE Z (fun cn aj=>LD.of_box<|BX.ext (w:=ca) a6 aj) Z Aa<|Ad 1 Z ?_
  refine AI 58 [] [] [zP g,.agg #[zI op,zI<|ks.getD 0 0,zI (0:Int),zI (0:Int)],zI (if E3 op (T.vals.getD ((0:Int).toNat) 0)then 0 else FN op (T.vals.getD ((ks.getD 0 0).toNat) 0) (T.vals.getD ((0:Int).toNat) 0))] Z Z TW Aa (CK _ S g vp ip (s0) (c0) (T) (⟨op,ks.getD 0 0,(0:Int),(0:Int)⟩:Az) (if E3 op (T.vals.getD ((0:Int).toNat) 0)then 0 else FN op (T.vals.getD ((ks.getD 0 0).toNat) 0) (T.vals.getD ((0:Int).toNat) 0)) (fun b hb=>(ad.lt b hb:b<ca.heap.size)) (ad.sub _ hgS) ⟨_,_,_,ac,ax⟩ _hip (by exact hbd.ln hs0) ⟨_hop,am.2,(show Bk (0:Int)from by omega),(show Bk (0:Int)from by omega)⟩ (by have:=J6 op (T.vals.getD ((ks.getD 0 0).toNat) 0) (T.vals.getD ((0:Int).toNat) 0);split <;> omega)) ?_
  rintro d0 cr ⟨cu,rfl,a5,cv,vg36,vv36,bc,bd⟩
  refine⟨_,rfl,?_⟩
  have br:ca.heap.size≤cr.heap.size:=a5.chg.size
  have cc:AA S w cr:=aw.stp a5.chg ad.new
  have be:w.heap.size∉cu:=fun hm=>(a5.new _ hm).elim (fun hm=>Ec) (fun h9=>by omega)
  have bf:=ad.trans a5
  have bs:(T.put (⟨op,ks.getD 0 0,(0:Int),(0:Int)⟩:Az) (if E3 op (T.vals.getD ((0:Int).toNat) 0)then 0 else FN op (T.vals.getD ((ks.getD 0 0).toNat) 0) (T.vals.getD ((0:Int).toNat) 0))).vals.length=T.vals.length+1:=E4 _ _ _
  have bt:(T.put (⟨op,ks.getD 0 0,(0:Int),(0:Int)⟩:Az) (if E3 op (T.vals.getD ((0:Int).toNat) 0)then 0 else FN op (T.vals.getD ((ks.getD 0 0).toNat) 0) (T.vals.getD ((0:Int).toNat) 0))).grd.length=T.grd.length:=rfl
  exact Ac 1 Z<|A1<|Af [6] Z (zI (T.vals.length:Int)) Z ⟨(T.vals.length:Int),_,T.put (⟨op,ks.getD 0 0,(0:Int),(0:Int)⟩:Az) (if E3 op (T.vals.getD ((0:Int).toNat) 0)then 0 else FN op (T.vals.getD ((ks.getD 0 0).toNat) 0) (T.vals.getD ((0:Int).toNat) 0)),c0,rfl,bf,⟨_,_,_,bc,bd⟩,Ni,oM,Nh,oM,Ng⟩
 refine Ah (by first|rfl|exact zW ay)<|ZN [0,0,0,4] Z<|Ad 1 Z<|Bb Z Aa<|Ak (p:=zP g) 7 Fl Z Z Aa (BH (k:=7) (w:=ca) I3 Z Z ⟨rfl,rfl⟩ ac sM Aa fun cp ae ce al=>?_)
 replace al:BX cp.heap g [vp,zI ip,rc0,rg0,zN,rv0,zI (s0:Int),zI ((6:Nat):Int)]:=al
 have cf:AA S w cp:=aw.trans (ae.sub (B2 hgS))
 have bg:=BG.chg ax ae
 have bh:=ad.set hgS ae
 have bu:ca.heap.size≤cp.heap.size:=ae.size
 exact Aj<|ZO Z<|A1<|Ao<|Af [6] Z (zI ((0:Nat):Int)) Z ⟨((0:Nat):Int),_,T,((6:Nat):Int),rfl,bh,⟨_,_,_,al,bg⟩,Ni,oM,Nh,oM,Ng⟩
theorem OY (F d:Nat)(IH:∀d',d'<d→YO F d'):ZW F d:=by
 intro w S g vp dp ip s0 c0 p T vl l vv env hS hgS hR0 hp hip hs0 hc0 hbd hl henv hqenv hvp hF hwf hdp hll hen
 exact I6 w S F g vp dp ip s0 c0 p T d vl l vv env hS hgS hR0 hp hip hs0 hc0 hbd hl henv hqenv hvp hF hwf hdp hll hen IH
theorem Eo {p:Prop}(h:p:=by first|exact Tu oM|exact Qk oM oM|exact Vv hc00 hs1 oM|exact Vw hc00 hs1 oM|exact Vx hc00 hs1 oM oM hL1 oM|exact Vy hc00 hs1 oM oM hL1 oM (by assumption) hL2|exact Vz hc00 hs1 oM oM hL1 oM (by assumption) hL2|exact VA hc00 hs1 oM oM hL1 hL2|exact Rf hc00 hs1 hkg.1 hkg.2.1 hkg.2.2.1 hkg.2.2.2 hKr oM|exact Tv hc00 hs1 oM oM hKr oM hL2|exact Tw hc00 hs1 oM oM hKr oM (Ty hrl9 oM oM)|exact Xe hc00 hs1 hkg.1 hkg.2.1 hkg.2.2.1 hkg.2.2.2 oM oM hKr oM hL2):p:=h
theorem Ep {p:Prop}(h:p:=by first|(intro h9;exact absurd h9 oM)|assumption|(intro h9;omega)|(intro h9;have:=hkb9 h9;omega)):p:=h
theorem GV {p:Prop}(h:p:=by first|assumption|exact hbd.up oM|exact FT.guard (by assumption) _ _ oM):p:=h
theorem Er {p:Prop}(h:p:=by first|assumption|exact hbd.put _ oM|exact FT.dn (by assumption) oM oM):p:=h
theorem I7 (w:World)(S:List Nat)(F:Nat)(g:Nat)(vp:Value)(dp:Nat)(ip:Int)(s0:Nat)(c0:Int)(p:List Fn)(T:Tp)(dex:Nat)(ve:Value)(ex:Ex)(vv:Value)(env:Sr)(hS:∀b∈S,b<w.heap.size)(hgS:g∈S)(hR0:Qs 46 177 2 S g w.heap vp ip T s0 c0)(hp:RP S dp w.heap vp p)(_hip:Bk ip)(hs0:s0≤3000)(hc0:0≤c0∧c0≤9)(hbd:FT T s0)(hex:RX S dex w.heap ve ex)(henv:RN S (B5 rI) w.heap vv env)(hqenv:BV vv)(hvp:FY p)(hF:F≤p.length)(hwf:wf p (F:Int) ex (env.length:Int)=true)(hdp:env.length+ex.deep≤1000000)(hen:c0=0→FD T env)(IH1:∀F',F'<F→∀d,YO F' d)(IH2:∀d',d'<dex→YO F d') :
  Calls Tryz.prog 118 #[zP g,(.agg #[(zI ex.kind),(zI ex.num),(zI ex.pick),(zI ex.count),ve]),vv] w (fun e w'=>∃(r:Int) (S':List Nat) (T':Tp) (s1:Nat) (c1:Int),e=.returned (zI r)∧Dy S S' w w'∧Qs 46 177 2 S' g w'.heap vp ip T' s1 c1∧Uo T T' s0 s1 c1∧(c1=0→0≤r∧r<(T'.vals.length:Int))∧(Bk r)∧AM (go c0 (DV (Gs p F) ex env s0 T)) (r,T') s1 c1):=by
 refine As [zP g,.agg #[zI ex.kind,zI ex.num,zI ex.pick,zI ex.count,ve],vv] 190 Tryz.func118 Z Z sM ?_
 have j4:AA S w w:=AA.refl S w
 have fi:=hp.lenle
 unfold maxLen at fi
 have fj:=hex.rn.lenle
 unfold maxLen at fj
 have fk:=henv.lenL
 unfold maxLen at fk
 obtain⟨rc0,rg0,rv0,g9,j5⟩:=hR0
 have mr:=g9.lt
 have hG0:Dy S S w w:=Dy.refl hS
 have hdk:=D7 ex
 refine ZN [3,0] Z ?_
 have ky:=g9.lt
 refine Bj (cs:=#[zI ex.kind,zI ex.num,zI ex.pick,zI ex.count,ve]) Z Aa fun w1 d3 ka g0=>?_
 have ga:w.heap.size≤w1.heap.size:=d3.size
 have gb:AA S w w1:=j4.ext d3
 have ai:=g9.ext d3
 have g2:=BG.ext j5 d3
 have g3:=hG0.ext d3
 replace g0:BX w1.heap w.heap.size [zI ex.kind,zI ex.num,zI ex.pick,zI ex.count,ve]:=g0
 refine Ac 1 Z<|A0<|ZN [0,0,0,2,0] Z<|Ad 1 Z<|Bb Z Aa<|Ak (p:=zP g) 7 Fl Z Z Aa<|Ae (p:=An (zP g) 7) (.inr Z) (zI c0) AC Z (ai.ldp (i:=7) sM) Aa ?_
 by_cases j6:c0≠((0:Nat):Int)
 ·refine AU true Z Z (A5 j6) Aa<|Aj<|Ah Z<|ZO Z<|A1<|Ao ?_
  exact Af [6] Z (zI ((0:Nat):Int)) Z ⟨((0:Nat):Int),_,T,s0,c0,rfl,g3,⟨_,_,_,ai,g2⟩,⟨Er,oM⟩,Ep,oM,Eo⟩
 refine AU false Z Z (A6 j6) Aa<|Aj<|Ai Z<|A2<|A0<|ZN [0,0,0,2,0] Z<|Ad 1 Z<|Bb Z Aa<|Ak (p:=zP g) 6 N8 Z Z Aa<|Ae (p:=An (zP g) 6) (.inr Z) (zI (s0:Int)) AC Z (ai.ldp (i:=6) sM) Aa ?_
 by_cases j7:(s0:Int)=((3000:Nat):Int)
 ·refine Ap true Z Z (A5 j7) Aa<|Aj<|Ah Z<|ZN [0,0,0,4] Z<|Ad 1 Z<|Bb Z Aa<|Ak (p:=zP g) 7 Fl Z Z Aa (BH (k:=7) (w:=w1) I3 Z Z ⟨rfl,rfl⟩ ai sM Aa fun w6 d4 kz gc=>?_)
  replace gc:BX w6.heap g [vp,zI ip,rc0,rg0,zN,rv0,zI (s0:Int),zI ((7:Nat):Int)]:=gc
  have l0:AA S w w6:=gb.trans (d4.sub (B2 hgS))
  have kb:=BG.chg g2 d4
  have kc:=g3.set hgS d4
  have kd:w1.heap.size≤w6.heap.size:=d4.size
  have ke:=g0.chg d4 (zB ·)
  refine Aj<|ZO Z<|A1<|Ao ?_
  exact Af [6] Z (zI ((0:Nat):Int)) Z ⟨((0:Nat):Int),_,T,s0,((7:Nat):Int),rfl,kc,⟨_,_,_,gc,kb⟩,⟨Er,oM⟩,Ep,oM,Eo⟩
 refine Ap false Z Z (A6 j7) Aa<|Aj<|Ai Z<|A2<|ZN [0,0,0,2,0,0,0,4] Z<|Ad 1 Z<|Bb Z Aa<|Ak (p:=zP g) 6 N8 Z Z Aa<|Ae (p:=An (zP g) 6) (.inr Z) (zI (s0:Int)) AC Z (ai.ldp (i:=6) sM) Aa<|AQ ((s0+1:Nat):Int) Z Z (Be oM oM) Aa<|Bb Z Aa<|Ak (p:=zP g) 6 N8 Z Z Aa (BH (k:=6) (w:=w1) I3 Z Z ⟨rfl,rfl⟩ ai sM Aa fun f3 b0 gd aw=>?_)
 replace aw:BX f3.heap g [vp,zI ip,rc0,rg0,zN,rv0,zI ((s0+1:Nat):Int),zI c0]:=aw
 have a4:AA S w f3:=gb.trans (b0.sub (B2 hgS))
 have b1:=BG.chg g2 b0
 have a0:=g3.set hgS b0
 have d5:w1.heap.size≤f3.heap.size:=b0.size
 have ac:=g0.chg b0 (zB ·)
 refine Aj<|A0<|ZN [0,2] Z ?_
 have hc00:c0=0:=by omega
 have hs1:s0+1≤3000:=by omega
 have ax:=hen hc00
 have kf:=hbd.up (s':=s0+1) oM
 have hbn:=hbd.2
 refine Ak (p:=zP w.heap.size) 0 BC Z Z Aa<|Ae (p:=An (zP w.heap.size) 0) (.inr Z) (zI ex.kind) AC Z (ac.ldp (i:=0) sM) Aa<|Aj<|A3<|ZN [0,0] Z ?_
 by_cases d6:ex.kind=((1:Nat):Int)
 ·refine Ap true Z Z (A5 d6) Aa<|Ac 1 Z<|Ah Z<|ZN [0,0,2,0,0,2,4,0] Z ?_
  have hwk:=KN hwf oM
  refine Ad 1 Z<|Ak (p:=zP w.heap.size) 1 Bw Z Z Aa<|Ae (p:=An (zP w.heap.size) 1) (.inr Z) (zI ex.num) AC Z (ac.ldp (i:=1) sM) Aa ?_
  have d7:∀(wq:World),(Instr.build 46 #[(0,zI ((2:Nat):Int)),(3,zI ex.num)]).run Tryz.prog wq=.ok (.agg #[zI ((2:Nat):Int),zI 0,zI 0,zI ex.num]) wq:=by intro wq;kernel_rfl
  refine CI (ps:=#[(0,zI ((2:Nat):Int)),(3,zI ex.num)]) (.agg #[zI ((2:Nat):Int),zI 0,zI 0,zI ex.num]) (by simp only[zc,zf,zh];rfl) (fun wq=>d7  wq) Aa<|Ak (p:=zP w.heap.size) 1 Bw Z Z Aa<|Ae (p:=An (zP w.heap.size) 1) (.inr Z) (zI ex.num) AC Z (ac.ldp (i:=1) sM) Aa ?_
  refine AI 58 [] [] [zP g,.agg #[zI ((2:Nat):Int),zI (0:Int),zI (0:Int),zI ex.num],zI ex.num] Z Z TW Aa (CK _ S g vp ip (s0+1) (c0) (T) (⟨((2:Nat):Int),(0:Int),(0:Int),ex.num⟩:Az) (ex.num) (fun b hb=>(a0.lt b hb:b<f3.heap.size)) (a0.sub _ hgS) ⟨_,_,_,aw,b1⟩ _hip (by exact FT.ln (by assumption) oM) ⟨(show Bk ((2:Nat):Int)from by omega),(show Bk (0:Int)from by omega),(show Bk (0:Int)from by omega),hex.rng.num⟩ hex.rng.num) ?_
  rintro ms lj ⟨ly,rfl,an,lz,vg18,vv18,ge,gf⟩
  refine⟨_,rfl,?_⟩
  have j8:f3.heap.size≤lj.heap.size:=an.chg.size
  have kg:AA S w lj:=a4.stp an.chg a0.new
  have kh:=ac.chg an.chg fun hm=>Ec
  have gg:w.heap.size∉ly:=fun hm=>(an.new _ hm).elim (fun hm=>Ec) (fun h9=>by omega)
  have gh:=a0.trans an
  have j9:(T.put (⟨((2:Nat):Int),(0:Int),(0:Int),ex.num⟩:Az) (ex.num)).vals.length=T.vals.length+1:=E4 _ _ _
  have ja:(T.put (⟨((2:Nat):Int),(0:Int),(0:Int),ex.num⟩:Az) (ex.num)).grd.length=T.grd.length:=rfl
  refine Ac 1 Z<|A1<|AH<|Ao ?_
  exact Af [6] Z (zI (T.vals.length:Int)) Z ⟨(T.vals.length:Int),_,T.put (⟨((2:Nat):Int),(0:Int),(0:Int),ex.num⟩:Az)<|ex.num,s0+1,c0,rfl,gh,⟨_,_,_,ge,gf⟩,⟨Er,oM⟩,Ep,oM,Eo⟩
 refine Ap false Z Z (A6 d6) Aa<|Ac 1 Z<|Ai Z<|ZN [0,0] Z ?_
 by_cases d8:ex.kind=((2:Nat):Int)
 ·refine Ap true Z Z (A5 d8) Aa<|Ac 1 Z<|Ah Z<|ZN [0,0,2,0,2,0] Z ?_
  have hwk:=KO hwf oM
  have hRv:=ax ex.num.toNat oM
  refine Ad 1 Z<|Ak (p:=zP w.heap.size) 1 Bw Z Z Aa<|Ae (p:=An (zP w.heap.size) 1) (.inr Z) (zI ex.num) AC Z (ac.ldp (i:=1) sM) Aa<|Au (v:=vv) ((ex.num).toNat) Bl BD Z Z henv.slL oM oM Aa ?_
  have da:=RN.getI (w:=w) (k:=(ex.num).toNat) henv oM
  refine Ae (p:=Aw vv ((ex.num).toNat) 1) (.inr Z) (zI<|env.getD ((ex.num).toNat) 0) AC Z (da.1 _ a4) Aa<|Ac 1 Z<|A1<|AH<|Ao ?_
  exact Af [6] Z (zI<|env.getD ((ex.num).toNat) 0) Z ⟨env.getD ((ex.num).toNat) 0,_,T,s0+1,c0,rfl,a0,⟨_,_,_,aw,b1⟩,⟨Er,oM⟩,Ep,da.2,Eo⟩
 refine Ap false Z Z (A6 d8) Aa<|Ac 1 Z<|Ai Z<|ZN [0,0] Z ?_
 by_cases db:ex.kind=((8:Nat):Int)
 ·refine Ap true Z Z (A5 db) Aa<|Ac 1 Z<|Ah Z<|ZN [0,0,2,0,2,0,4,0] Z ?_
  have hwk:=NU hwf oM
  refine Ad 1 Z<|Ak (p:=zP w.heap.size) 4 B8 Z Z Aa<|Ae (p:=An (zP w.heap.size) 4) (.inr Z) ve Ba Z (ac.ldp (i:=4) sM) Aa<|Au (v:=ve) 0 CB Bf Z Z hex.rn.isSl Z sD Aa ?_
  obtain⟨cs28,gi,gj⟩:=hex.rn.get (Aq dex) Ex.zero (k:=0) sD
  obtain⟨dd28,cc,ki,rfl,cd⟩:=RX.of gi
  have dc:=cd.rn.lenle
  unfold maxLen at dc
  refine AJ (p:=Aw ve 0 5) (.inr Z) [zI<|(ex.kids.getD 0 Ex.zero).kind,zI<|(ex.kids.getD 0 Ex.zero).num,zI<|(ex.kids.getD 0 Ex.zero).pick,zI<|(ex.kids.getD 0 Ex.zero).count,cc] Bx Z (fun fc ce=>gj fc<|a4.ext ce) Z Aa<|Ad 1 Z ?_
  refine AI 118 [] [] [zP g,.agg #[zI<|(ex.kids.getD 0 Ex.zero).kind,zI<|(ex.kids.getD 0 Ex.zero).num,zI<|(ex.kids.getD 0 Ex.zero).pick,zI<|(ex.kids.getD 0 Ex.zero).count,cc],vv] Z Z Lg Aa (IH2 dd28 oM _ S g vp dp ip (s0+1) (c0) p (T) cc (ex.kids.getD 0 Ex.zero) vv (env) (fun b hb=>(a0.lt b hb:b<f3.heap.size)) (a0.sub _ hgS) ⟨_,_,_,aw,b1⟩ (RN.stp (Al<|Ax dp) hp a4 a0.new) _hip oM oM GV ⟨cd.rng,RN.stp (Al<|Aq dd28) cd.rn a4 a0.new⟩ (RN.stp g1 henv a4 a0.new) hqenv hvp oM (by exact BT hwf oM oM) (zH<|CH (l:=ex.kids) (k:=0) oM) (by exact fun _=>ax)) ?_
  rintro mt fb ⟨f0,l7,f1,l3,fg,rfl,ao,⟨fl,vg29,vv29,b4,b5⟩,dd,de,df,dg⟩
  refine⟨_,rfl,?_⟩
  have jb:f3.heap.size≤fb.heap.size:=ao.chg.size
  have dh:AA S w fb:=a4.stp ao.chg a0.new
  have di:=ac.chg ao.chg fun hm=>Ec
  have b6:w.heap.size∉l7:=fun hm=>(ao.new _ hm).elim (fun hm=>Ec) (fun h9=>by omega)
  have bi:=a0.trans ao
  have jc:=dd.bnd
  have jd:=dd.num
  have gk:=de
  have hL1:=dg
  refine Ac 1 Z<|A0<|ZN [0,0,0,2,0] Z<|Ad 1 Z<|Bb Z Aa<|Ak (p:=zP g) 7 Fl Z Z Aa<|Ae (p:=An (zP g) 7) (.inr Z) (zI fg) AC Z (b4.ldp (i:=7) sM) Aa ?_
  by_cases dj:fg≠((0:Nat):Int)
  ·refine AU true Z Z (A5 dj) Aa<|Aj<|Ah Z<|ZO Z<|A1<|Ao<|AH<|Ao ?_
   exact Af [6] Z (zI ((0:Nat):Int)) Z ⟨((0:Nat):Int),_,f1,l3,fg,rfl,bi,⟨_,_,_,b4,b5⟩,⟨Er,oM⟩,Ep,oM,Eo⟩
  refine AU false Z Z (A6 dj) Aa<|Aj<|Ai Z<|A2<|ZN [0,0,0,2,0,0,2,0,0] Z ?_
  have hR1c:=gk oM
  refine Ad 1 Z<|Bb Z Aa<|Ak (p:=zP g) 5 DK Z Z Aa<|Ae (p:=An (zP g) 5) (.inr Z) vv29 AZ Z (b4.ldp (i:=5) sM) Aa<|Ad 1 Z<|Au (v:=vv29) ((f0).toNat) Bl BD Z Z (BG.slv b5) oM oM Aa (Ae (p:=Aw vv29 ((f0).toNat) 1) (.inr Z) (zI<|f1.vals.getD ((f0).toNat) 0) AC Z ((BG.rdv b5).getI oM).1 Aa (Ap (decide (f1.vals.getD ((f0).toNat) 0=((0:Nat):Int))) Z Z Z Aa<|Ac 1 Z<|A0 ?_))
  obtain⟨Fc38,Fg38,Fv38,b7,dk,b8,ap,az,dl,bt,dm⟩:=id b5
  refine Ab _ [0,0,0,0,0,2,0,0,0,3,4,0,0,0,4] Z<|Ad 2 Z<|Bb Z Aa<|Ak (p:=zP g) 1 FU Z Z Aa<|Ak (p:=An (zP g) 1) (b:=g) (o:=1) 2 GQ Z Z Aa<|Ae (p:=An (An (zP g) 1) 2) (.inr Z) vg29 Lk Z (b4.ldp (i:=3) sM) Aa<|Ad 2 Z ?_
  have dn:∀(wq:World),(Instr.build 177 #[(0,zI f0),(1,.bool (decide (f1.vals.getD ((f0).toNat) 0=((0:Nat):Int))))]).run Tryz.prog wq=.ok (.agg #[zI f0,.bool (decide (f1.vals.getD ((f0).toNat) 0=((0:Nat):Int)))]) wq:=by intro wq;kernel_rfl
  refine CI (ps:=#[(0,zI f0),(1,.bool<|decide (f1.vals.getD ((f0).toNat) 0=((0:Nat):Int)))]) (.agg #[zI f0,.bool<|decide (f1.vals.getD ((f0).toNat) 0=((0:Nat):Int))]) (by simp only[zc,zf,zh];rfl) (fun wq=>dn  wq) Aa (KH (cs:=[zI f0,.bool<|decide (f1.vals.getD ((f0).toNat) 0=((0:Nat):Int))]) (y:=(⟨f0,decide (f1.vals.getD ((f0).toNat) 0=((0:Nat):Int))⟩:Gr)) (B:=fb.heap.size) B6 T5 JE Z (by decide) Z (Re (x:=(⟨f0,decide (f1.vals.getD ((f0).toNat) 0=((0:Nat):Int))⟩:Gr)) (B:=fb.heap.size) (U:=fb.heap.size) df) (A7 _) Aa fun m0 l8 a7 kj gl=>?_)
  have je:fb.heap.size≤l8.heap.size:=a7.size
  have kk:AA S w l8:=dh.ext a7
  have bj:=b4.ext a7
  have g4:=di.ext a7
  have kl:=(BG.rdv b5).ext g1 a7
  have gm:=bi.ext a7
  have hOc38x:=b7.ext (Av AW) a7
  have hOg38x:=dk.ext (Av B6) a7
  have hOv38x:=b8.ext (AY AK) a7
  refine JA (v:=vg29) (a:=m0) B6 T5 JE Z (by decide) Z Z hOg38x gl (A7 _) (Nat.zero_le _) (Nat.zero_le _) oM (by unfold maxLen;omega) Aa fun lk fd ll b9 dq bk=>?_
  have dr:l8.heap.size≤fd.heap.size:=b9.size
  obtain⟨fm,bu⟩:∃l:List Nat,l=ll++l7:=⟨_,rfl⟩
  have aq:Dy l7 fm fb fd:=by rw[bu];exact⟨fun b hb=>z1 _ hb,fun b hb=>by rcases zi.1 hb with hb|hb;(rcases bk b hb with h9|h9|h9;exact .inl (bt b h9);(have:=a7.size;omega);(have:=a7.size;omega));exact .inl hb,fun b hb=>by rcases zi.1 hb with hb|hb;exact dq.high b hb;(have:=gm.lt b hb;omega),(AA.of_ext _ a7).trans (b9.sub bt)⟩
  have ds:BG 46 177 2 fm g fd.heap fl lk vv29 (f1.guard (f0) (decide (f1.vals.getD ((f0).toNat) 0=((0:Nat):Int)))):=⟨Fc38,ll,Fv38,(hOc38x.up a7.size).chgS (Av AW) b9 (fun b hb hm=>ap.1 b hm hb),dq,(hOv38x.up a7.size).chgS (AY AK) b9 (fun b hb hm=>ap.2.2 b hb hm),⟨fun b hb hm=>by rcases bk b hm with h9|h9|h9;exact ap.1 b hb h9;(have:=b7.high b hb;omega);(have:=b7.high b hb;have:=a7.size;omega),ap.2.1,fun b hm hb=>by rcases bk b hm with h9|h9|h9;exact ap.2.2 b h9 hb;(have:=b8.high b hb;omega);(have:=b8.high b hb;have:=a7.size;omega)⟩,⟨az.1,fun hm=>by rcases bk g hm with h9|h9|h9;exact az.2.1 h9;omega;omega,az.2.2⟩,by rw[bu];exact⟨fun b hb=>z1 _ (dl b hb),fun b hb=>z8 _ hb,fun b hb=>z1 _ (dm b hb)⟩⟩
  have gn:=bj.chg b9 az.2.1
  have dr:fb.heap.size≤fd.heap.size:=aq.chg.size
  have gp:AA S w fd:=dh.stp aq.chg bi.new
  have gq:=di.chg aq.chg fun hm=>b6 hm
  have al:w.heap.size∉fm:=fun hm=>(aq.new _ hm).elim (fun hm=>b6 hm) (fun h9=>by omega)
  have gr:=bi.trans aq
  have jf:(f1.guard (f0) (decide (f1.vals.getD ((f0).toNat) 0=((0:Nat):Int)))).vals.length=f1.vals.length:=rfl
  have jg:(f1.guard (f0) (decide (f1.vals.getD ((f0).toNat) 0=((0:Nat):Int)))).grd.length=f1.grd.length+1:=KZ _ _ _
  refine Bb Z Aa<|Ak (p:=zP g) 1 FU Z Z Aa<|Ak (p:=An (zP g) 1) (b:=g) (o:=1) 2 GQ Z Z Aa (BH (k:=3) (w:=fd) Yz Z Z (Bn ds.slg) gn sM Aa fun fe ba km bl=>?_)
  replace bl:BX fe.heap g [vp,zI ip,fl,lk,zN,vv29,zI (l3:Int),zI fg]:=bl
  have ah:AA S w fe:=gp.trans (ba.sub (B2 hgS))
  have dt:=BG.chg ds ba
  have aa:=gr.set hgS ba
  have jh:fd.heap.size≤fe.heap.size:=ba.size
  have bm:=gq.chg ba (zB ·)
  refine Aj<|A0<|ZN [0] Z<|Ac 1 Z ?_
  cases bn:(decide (f1.vals.getD ((f0).toNat) 0=((0:Nat):Int)))
  ·have ji:=of_decide_eq_false bn
   refine Ai (by first|rfl|exact zW bn)<|A2<|ZN [0,0,2,0,2,0,4,0] Z<|Ad 1 Z<|Ak (p:=zP w.heap.size) 4 B8 Z Z Aa<|Ae (p:=An (zP w.heap.size) 4) (.inr Z) ve Ba Z (bm.ldp (i:=4) sM) Aa<|Au (v:=ve) 2 CB Bf Z Z hex.rn.isSl Z sD Aa ?_
   obtain⟨cs60,gs,gt⟩:=hex.rn.get (Aq dex) Ex.zero (k:=2) sD
   obtain⟨dd60,cf,kn,rfl,cg⟩:=RX.of gs
   have du:=cg.rn.lenle
   unfold maxLen at du
   refine AJ (p:=Aw ve 2 5) (.inr Z) [zI<|(ex.kids.getD 2 Ex.zero).kind,zI<|(ex.kids.getD 2 Ex.zero).num,zI<|(ex.kids.getD 2 Ex.zero).pick,zI<|(ex.kids.getD 2 Ex.zero).count,cf] Bx Z (fun fc ce=>gt fc<|ah.ext ce) Z Aa<|Ad 1 Z ?_
   refine AI 118 [] [] [zP g,.agg #[zI<|(ex.kids.getD 2 Ex.zero).kind,zI<|(ex.kids.getD 2 Ex.zero).num,zI<|(ex.kids.getD 2 Ex.zero).pick,zI<|(ex.kids.getD 2 Ex.zero).count,cf],vv] Z Z Lg Aa (IH2 dd60 oM _ fm g vp dp ip (l3) (fg) p (f1.guard (f0)<|decide (f1.vals.getD ((f0).toNat) 0=((0:Nat):Int))) cf (ex.kids.getD 2 Ex.zero) vv (env) (fun b hb=>(aa.lt b hb:b<fe.heap.size)) (aa.sub _ hgS) ⟨_,_,_,bl,dt⟩ (RN.stp (Al<|Ax dp) hp ah aa.new) _hip oM oM GV ⟨cg.rng,RN.stp (Al<|Aq dd60) cg.rn ah aa.new⟩ (RN.stp g1 henv ah aa.new) hqenv hvp oM (by exact BT hwf oM oM) (zH<|CH (l:=ex.kids) (k:=2) oM) (by exact fun _=>ax.mono (by simp only[Gt];omega))) ?_
   rintro mu lm ⟨lo,m1,m2,m3,m4,rfl,ar,⟨m5,vg61,vv61,gu,gv⟩,dv,dw,dx,dy⟩
   refine⟨_,rfl,?_⟩
   have jj:fe.heap.size≤lm.heap.size:=ar.chg.size
   have ko:AA S w lm:=ah.stp ar.chg aa.new
   have kp:=bm.chg ar.chg fun hm=>al hm
   have gw:w.heap.size∉m1:=fun hm=>(ar.new _ hm).elim (fun hm=>al hm) (fun h9=>by omega)
   have gx:=aa.trans ar
   have jk:=dv.bnd
   have jl:=dv.num
   have hRv:=dw
   have hL2:=dy
   refine Ac 1 Z<|A1<|AH<|Ao ?_
   exact Af [6] Z (zI lo) Z ⟨lo,_,m2,m3,m4,rfl,gx,⟨_,_,_,gu,gv⟩,⟨Er,oM⟩,Ep,dx,Eo⟩
  have jm:=of_decide_eq_true bn
  refine Ah (by first|rfl|exact zW bn)<|ZN [0,0,2,0,2,0,4,0] Z<|Ad 1 Z<|Ak (p:=zP w.heap.size) 4 B8 Z Z Aa<|Ae (p:=An (zP w.heap.size) 4) (.inr Z) ve Ba Z (bm.ldp (i:=4) sM) Aa<|Au (v:=ve) 1 CB Bf Z Z hex.rn.isSl Z sD Aa ?_
  obtain⟨cs72,gy,gz⟩:=hex.rn.get (Aq dex) Ex.zero (k:=1) sD
  obtain⟨dd72,ch,kq,rfl,ci⟩:=RX.of gy
  have dz:=ci.rn.lenle
  unfold maxLen at dz
  refine AJ (p:=Aw ve 1 5) (.inr Z) [zI<|(ex.kids.getD 1 Ex.zero).kind,zI<|(ex.kids.getD 1 Ex.zero).num,zI<|(ex.kids.getD 1 Ex.zero).pick,zI<|(ex.kids.getD 1 Ex.zero).count,ch] Bx Z (fun fc ce=>gz fc<|ah.ext ce) Z Aa<|Ad 1 Z ?_
  refine AI 118 [] [] [zP g,.agg #[zI<|(ex.kids.getD 1 Ex.zero).kind,zI<|(ex.kids.getD 1 Ex.zero).num,zI<|(ex.kids.getD 1 Ex.zero).pick,zI<|(ex.kids.getD 1 Ex.zero).count,ch],vv] Z Z Lg Aa (IH2 dd72 oM _ fm g vp dp ip (l3) (fg) p (f1.guard (f0)<|decide (f1.vals.getD ((f0).toNat) 0=((0:Nat):Int))) ch (ex.kids.getD 1 Ex.zero) vv (env) (fun b hb=>(aa.lt b hb:b<fe.heap.size)) (aa.sub _ hgS) ⟨_,_,_,bl,dt⟩ (RN.stp (Al<|Ax dp) hp ah aa.new) _hip oM oM GV ⟨ci.rng,RN.stp (Al<|Aq dd72) ci.rn ah aa.new⟩ (RN.stp g1 henv ah aa.new) hqenv hvp oM (by exact BT hwf oM oM) (zH<|CH (l:=ex.kids) (k:=1) oM) (by exact fun _=>ax.mono (by simp only[Gt];omega))) ?_
  rintro mv lp ⟨lq,m6,m7,m8,m9,rfl,au,⟨ma,vg73,vv73,i0,i1⟩,e0,e1,e2,e3⟩
  refine⟨_,rfl,?_⟩
  have jn:fe.heap.size≤lp.heap.size:=au.chg.size
  have kr:AA S w lp:=ah.stp au.chg aa.new
  have kt:=bm.chg au.chg fun hm=>al hm
  have i2:w.heap.size∉m6:=fun hm=>(au.new _ hm).elim (fun hm=>al hm) (fun h9=>by omega)
  have i3:=aa.trans au
  have jo:=e0.bnd
  have jp:=e0.num
  have hRv:=e1
  have hL2:=e3
  refine Ac 1 Z<|A1<|Ao<|AH<|Ao ?_
  exact Af [6] Z (zI lq) Z ⟨lq,_,m7,m8,m9,rfl,i3,⟨_,_,_,i0,i1⟩,⟨Er,oM⟩,Ep,e2,Eo⟩
 refine Ap false Z Z (A6 db) Aa<|Ac 1 Z<|Ai Z<|ZN [0,0] Z ?_
 by_cases e4:ex.kind=((9:Nat):Int)
 ·refine Ap true Z Z (A5 e4) Aa<|Ac 1 Z<|Ah Z<|A0 ?_
  letI:JR:=X7 S
  refine Jx.AO _ [0,0,1,0,1,0,0,0,0,1,0,1,0,3,3,3,4,0] mixed (by kernel_rfl) ?_
  have hwk:=KP hwf oM
  refine Jx.V6 (zP g) Z Aa<|Jx.Ak (p:=zP w.heap.size) 4 B8 Z Z Aa<|Jx.YX (p:=An (zP w.heap.size) 4) ve Ba Z (fun wj hj=>(BX.chg (w:=f3.drew) (F:=S) ac hj fun hm=>zH<|hS _ hm).ldp (i:=4) sM) Aa<|Jx.Au (v:=ve) 1 CB Bf Z Z hex.rn.isSl Z sD Aa ?_
  obtain⟨cs84,i4,i5⟩:=hex.rn.get (Aq dex) Ex.zero (k:=1) sD
  obtain⟨dd84,cj,ku,rfl,ck⟩:=RX.of i4
  have e5:=ck.rn.lenle
  unfold maxLen at e5
  refine Jx.X8 (p:=Aw ve 1 5) [zI<|(ex.kids.getD 1 Ex.zero).kind,zI<|(ex.kids.getD 1 Ex.zero).num,zI<|(ex.kids.getD 1 Ex.zero).pick,zI<|(ex.kids.getD 1 Ex.zero).count,cj] Bx Z (fun wj hj=>i5 wj<|AA.trans a4.drew (show AA S f3.drew wj from hj)) Z Aa<|Jx.V6 vv Z Aa<|Jx.AB 169 [] [] [vv] Z Z Y6 Aa (DR vv) (fun wq=>EW wq vv _ henv.slL hqenv)<|Jx.V6 (zP g) Z Aa<|Jx.Ak (p:=zP w.heap.size) 4 B8 Z Z Aa<|Jx.YX (p:=An (zP w.heap.size) 4) ve Ba Z (fun wj hj=>(BX.chg (w:=f3.drew) (F:=S) ac hj fun hm=>zH<|hS _ hm).ldp (i:=4) sM) Aa ?_
  refine Jx.Au (v:=ve) 0 CB Bf Z Z hex.rn.isSl Z sD Aa ?_
  obtain⟨cs85,i6,i7⟩:=hex.rn.get (Aq dex) Ex.zero (k:=0) sD
  obtain⟨dd85,cl,kv,rfl,cm⟩:=RX.of i6
  have e6:=cm.rn.lenle
  unfold maxLen at e6
  refine Jx.X8 (p:=Aw ve 0 5) [zI<|(ex.kids.getD 0 Ex.zero).kind,zI<|(ex.kids.getD 0 Ex.zero).num,zI<|(ex.kids.getD 0 Ex.zero).pick,zI<|(ex.kids.getD 0 Ex.zero).count,cl] Bx Z (fun wj hj=>i7 wj<|AA.trans a4.drew (show AA S f3.drew wj from hj)) Z Aa<|Jx.V6 vv Z Aa ?_
  refine Jx.Am 118 [] [] [zP g,.agg #[zI<|(ex.kids.getD 0 Ex.zero).kind,zI<|(ex.kids.getD 0 Ex.zero).num,zI<|(ex.kids.getD 0 Ex.zero).pick,zI<|(ex.kids.getD 0 Ex.zero).count,cl],vv] Z Z Lg Aa (IH2 dd85 oM _ S g vp dp ip (s0+1) (c0) p (T) cl (ex.kids.getD 0 Ex.zero) vv (env) (fun b hb=>(a0.drew.lt b hb:b<f3.heap.size)) (a0.drew.sub _ hgS) ⟨_,_,_,aw,b1⟩ (RN.stp (Al<|Ax dp) hp a4.drew a0.drew.new) _hip oM oM GV ⟨cm.rng,RN.stp (Al<|Aq dd85) cm.rn a4.drew a0.drew.new⟩ (RN.stp g1 henv a4.drew a0.drew.new) hqenv hvp oM (by exact BT hwf oM oM) (zH<|CH (l:=ex.kids) (k:=0) oM) (by exact fun _=>ax)) ?_
  rintro mw fh ⟨l4,lr,mb,mc,me,rfl,ad,⟨mf,vg86,vv86,i8,i9⟩,e7,e8,e9,ea⟩
  refine⟨_,rfl,ad.chg,?_⟩
  replace ad:=ad.of_drew
  have jq:f3.heap.size≤fh.heap.size:=ad.chg.size
  have ia:AA S w fh:=a4.stp ad.chg a0.new
  have ib:=ac.chg ad.chg fun hm=>Ec
  have bb:w.heap.size∉lr:=fun hm=>(ad.new _ hm).elim (fun hm=>Ec) (fun h9=>by omega)
  have ic:=a0.trans ad
  have jr:=e7.bnd
  have js:=e7.num
  have gk:=e8
  have hL1:=ea
  refine Jx.Z6<|By (u:=zI l4) (B:=fh.heap.size) Bv Bl BD Z Z (LN fh.heap.size fh.heap.size _ ⟨rfl,rfl⟩) (A7 _) Aa ?_
  intro mg l5 b2 kw ie
  refine Aj ?_
  have jt:fh.heap.size≤l5.heap.size:=b2.size
  have eb:AA S w l5:=ia.ext b2
  have bo:=i8.ext b2
  have bp:=ib.ext b2
  have ig:=BG.ext i9 b2
  have cn:=ic.ext b2
  refine Jx.ZR<|Tt (v:=vv) (a:=mg) (u:=zI<|l4) (r:=l4) Bl BD Z Z Z (RN.stp g1 henv eb cn.new) ie ⟨[],⟨rfl,rfl,e9⟩,fun b hb=>by cases hb⟩ (fun b hb=>(cn.lt b hb:b<l5.heap.size)) oM (by unfold maxLen;omega) Aa ?_
  intro ls l6 ay ec ed
  refine Aj ⟨JR.ext ay,?_⟩
  have ju:l5.heap.size≤l6.heap.size:=ay.size
  have co:AA S w l6:=eb.ext ay
  have bq:=bo.ext ay
  have br:=bp.ext ay
  have ih:=BG.ext ig ay
  have b3:=cn.ext ay
  refine Jx.Tr Z ?_
  refine AI 118 [] [] [zP g,.agg #[zI<|(ex.kids.getD 1 Ex.zero).kind,zI<|(ex.kids.getD 1 Ex.zero).num,zI<|(ex.kids.getD 1 Ex.zero).pick,zI<|(ex.kids.getD 1 Ex.zero).count,cj],ls] Z Z Lg Aa (IH2 dd84 oM _ lr g vp dp ip (mc) (me) p (mb) cj (ex.kids.getD 1 Ex.zero) ls (env++[l4]) (fun b hb=>(b3.lt b hb:b<l6.heap.size)) (b3.sub _ hgS) ⟨_,_,_,bq,ih⟩ (RN.stp (Al<|Ax dp) hp co b3.new) _hip oM oM GV ⟨ck.rng,RN.stp (Al<|Aq dd84) ck.rn co b3.new⟩ ec ed hvp oM (by have h9:=Hl hwf oM oM;rw[z4,zd];exact h9) (by have:=CH (l:=ex.kids) (k:=1) oM;rw[z4,zd];omega) (by exact fun h9=>FD.snoc (ax.mono oM)<|gk h9)) ?_
  rintro mx lu ⟨lv,mh,mi,mj,ml,rfl,af,⟨mm,vg99,vv99,ii,ij⟩,ee,ef,eg,eh⟩
  refine⟨_,rfl,?_⟩
  have jv:l6.heap.size≤lu.heap.size:=af.chg.size
  have kx:AA S w lu:=co.stp af.chg b3.new
  have jw:=br.chg af.chg fun hm=>bb hm
  have g5:w.heap.size∉mh:=fun hm=>(af.new _ hm).elim (fun hm=>bb hm) (fun h9=>by omega)
  have jx:=RN.stp g1 ec af.chg af.new
  have ik:=b3.trans af
  have jy:=ee.bnd
  have jz:=ee.num
  have hRv:=ef
  have hL2:=eh
  refine Ac 1 Z<|A1<|AH<|Ao ?_
  exact Af [6] Z (zI lv) Z ⟨lv,_,mi,mj,ml,rfl,ik,⟨_,_,_,ii,ij⟩,⟨Er,oM⟩,Ep,eg,Eo⟩
 refine Ap false Z Z (A6 e4) Aa<|Ac 1 Z<|Ai Z<|A2<|ZN [0,0,2,0,4,0] Z ?_
 have hkg:ex.kind≠1∧ex.kind≠2∧ex.kind≠8∧ex.kind≠9:=by omega
 have l1:=MN hwf hvp hF
 refine Ad 1 Z<|Ak (p:=zP w.heap.size) 4 B8 Z Z Aa<|Ae (p:=An (zP w.heap.size) 4) (.inr Z) ve Ba Z (ac.ldp (i:=4) sM) Aa<|Ad 1 Z ?_
 refine AI 59 [] [] [zP g,ve,vv] Z Z VN Aa (OY F dex (fun d9 h9=>IH2 d9 oM) _ S g vp dp ip (s0+1) (c0) p (T) ve (ex.kids) vv (env) (fun b hb=>(a0.lt b hb:b<f3.heap.size)) (a0.sub _ hgS) ⟨_,_,_,aw,b1⟩ (RN.stp (Al<|Ax dp) hp a4 a0.new) _hip oM oM GV (RN.stp (Al<|Aq dex) hex.rn a4 a0.new) (RN.stp g1 henv a4 a0.new) hqenv hvp oM (by intro k hk;exact BT hwf hk oM) (by intro k hk;have:=CH (l:=ex.kids) (k:=k) hk;omega) oM (by exact fun _=>ax)) ?_
 rintro mn f4 ⟨f7,f2,f8,f9,f5,f6,rfl,ag,⟨fo,vg109,vv109,aj,av⟩,bv,ei,bc,cp,cq,cr⟩
 refine⟨_,rfl,?_⟩
 have ct:f3.heap.size≤f4.heap.size:=ag.chg.size
 have a8:AA S w f4:=a4.stp ag.chg a0.new
 have ae:=ac.chg ag.chg fun hm=>Ec
 have ab:w.heap.size∉f8:=fun hm=>(ag.new _ hm).elim (fun hm=>Ec) (fun h9=>by omega)
 have a1:=a0.trans ag
 have il:=bv.bnd
 have im:=bv.num
 have hKr:=cr
 have hKb:=cq
 have hKl:=cp
 have am:=ei.rn
 refine Ac 1 Z<|A0<|ZN [0,0,0,2,0] Z<|Ad 1 Z<|Bb Z Aa<|Ak (p:=zP g) 7 Fl Z Z Aa<|Ae (p:=An (zP g) 7) (.inr Z) (zI f6) AC Z (aj.ldp (i:=7) sM) Aa ?_
 by_cases bw:f6≠((0:Nat):Int)
 ·refine AU true Z Z (A5 bw) Aa<|Aj<|Ah Z<|ZO Z<|A1<|Ao ?_
  exact Af [6] Z (zI ((0:Nat):Int)) Z ⟨((0:Nat):Int),_,f9,f5,f6,rfl,a1,⟨_,_,_,aj,av⟩,⟨Er,oM⟩,Ep,oM,Eo⟩
 refine AU false Z Z (A6 bw) Aa<|Aj<|Ai Z<|A2<|A0<|ZN [0,2] Z<|Ak (p:=zP w.heap.size) 0 BC Z Z Aa<|Ae (p:=An (zP w.heap.size) 0) (.inr Z) (zI ex.kind) AC Z (ae.ldp (i:=0) sM) Aa<|Aj<|A3<|ZN [0,0] Z ?_
 by_cases bx:ex.kind=((10:Nat):Int)
 ·refine Ap true Z Z (A5 bx) Aa<|Ac 1 Z<|Ah Z<|A0<|AO _ [0,0,0,0,0,1,0,1,0,0,1,0,1,0,1,0,4,0] mixed (by kernel_rfl) ?_
  have hwk:=Fj hwf oM
  refine Ad 2 Z ?_
  have hvo:=hvp.outs (ex.num).toNat oM
  have hvd:=hvp.deep (ex.num).toNat oM (ex.pick).toNat oM
  refine Bb Z Aa<|Ak (p:=zP g) 0 PY Z Z Aa<|Ak (p:=An (zP g) 0) (b:=g) (o:=0) 0 BA Z Z Aa<|Ae (p:=An (An (zP g) 0) 0) (.inl Z) vp C5 Z (aj.ldp (i:=0) sM) Aa<|Ak (p:=zP w.heap.size) 1 Bw Z Z Aa<|Ae (p:=An (zP w.heap.size) 1) (.inl Z) (zI ex.num) AC Z (ae.ldp (i:=1) sM) Aa ?_
  refine Au (v:=vp) ((ex.num).toNat) Fq C9 Z Z hp.isSl oM sD Aa ?_
  obtain⟨cs118,ej,bz⟩:=hp.get (Ax dp) Fn.zero (k:=(ex.num).toNat) sD
  obtain⟨bd,rfl,be⟩:=RF.of ej
  have cu:=be.rn.lenle
  unfold maxLen at cu
  refine AD (p:=Aw vp ((ex.num).toNat) 3) 2 BQ Z (bz _ a8.drew) Aa<|Ae (p:=An (Aw vp ((ex.num).toNat) 3) 2) (.inl Z) bd Ba Z ((bz _ a8.drew).ld (i:=2) (by simp[DQ,DU])) Aa<|Ak (p:=zP w.heap.size) 2 Cn Z Z Aa<|Ae (p:=An (zP w.heap.size) 2) (.inl Z) (zI ex.pick) AC Z (ae.ldp (i:=2) sM) Aa ?_
  refine Au (v:=bd) ((ex.pick).toNat) CB Bf Z Z be.rn.isSl oM sD Aa ?_
  obtain⟨cs119,ek,el⟩:=be.rn.get (Aq dp) Ex.zero (k:=(ex.pick).toNat) sD
  obtain⟨dd119,bf,k0,rfl,bg⟩:=RX.of ek
  have cv:=bg.rn.lenle
  unfold maxLen at cv
  refine AJ (p:=Aw bd ((ex.pick).toNat) 5) (.inl Z) [zI<|(((p.getD ((ex.num).toNat) Fn.zero).outs).getD ((ex.pick).toNat) Ex.zero).kind,zI<|(((p.getD ((ex.num).toNat) Fn.zero).outs).getD ((ex.pick).toNat) Ex.zero).num,zI<|(((p.getD ((ex.num).toNat) Fn.zero).outs).getD ((ex.pick).toNat) Ex.zero).pick,zI<|(((p.getD ((ex.num).toNat) Fn.zero).outs).getD ((ex.pick).toNat) Ex.zero).count,bf] Bx Z (fun fc ce=>el fc<|a8.drew.ext ce) Z Aa<|Ad 1 Z ?_
  refine AI 118 [] [] [zP g,.agg #[zI<|(((p.getD ((ex.num).toNat) Fn.zero).outs).getD ((ex.pick).toNat) Ex.zero).kind,zI<|(((p.getD ((ex.num).toNat) Fn.zero).outs).getD ((ex.pick).toNat) Ex.zero).num,zI<|(((p.getD ((ex.num).toNat) Fn.zero).outs).getD ((ex.pick).toNat) Ex.zero).pick,zI<|(((p.getD ((ex.num).toNat) Fn.zero).outs).getD ((ex.pick).toNat) Ex.zero).count,bf],f7] Z Z Lg Aa (IH1 (ex.num).toNat oM dd119 _ f8 g vp dp ip (f5) (f6) p (f9) bf (((p.getD ((ex.num).toNat) Fn.zero).outs).getD ((ex.pick).toNat) Ex.zero) f7 (f2) (fun b hb=>(a1.drew.lt b hb:b<f4.heap.size)) (a1.drew.sub _ hgS) ⟨_,_,_,aj,av⟩ (RN.stp (Al<|Ax dp) hp a8.drew a1.drew.new) _hip oM oM GV ⟨bg.rng,RN.stp (Al<|Aq dd119) bg.rn a8.drew a1.drew.new⟩ am bc hvp oM (by have h9:=hvp.wf (ex.num).toNat oM (ex.pick).toNat oM;rw[show(f2.length:Int)=(p.getD (ex.num).toNat Fn.zero).params from by omega];exact h9) oM hKb) ?_
  rintro mo fp ⟨fq,l9,la,lb,lc,rfl,a2,⟨lw,vg120,vv120,em,en⟩,c2,cw,cx,cy⟩
  refine⟨_,rfl,?_⟩
  replace a2:=a2.of_drew
  have io:f4.heap.size≤fp.heap.size:=a2.chg.size
  have k1:AA S w fp:=a8.stp a2.chg a1.new
  have k2:=ae.chg a2.chg fun hm=>ab hm
  have g6:w.heap.size∉l9:=fun hm=>(a2.new _ hm).elim (fun hm=>ab hm) (fun h9=>by omega)
  have k3:=RN.stp g1 am a2.chg a2.new
  have eo:=a1.trans a2
  have iq:=c2.bnd
  have ir:=c2.num
  have hRv:=cw
  have hL2:=cy
  refine Ac 1 Z<|A1<|AH<|Ao ?_
  exact Af [6] Z (zI fq) Z ⟨fq,_,la,lb,lc,rfl,eo,⟨_,_,_,em,en⟩,⟨Er,oM⟩,Ep,cx,Eo⟩
 refine Ap false Z Z (A6 bx) Aa<|Ac 1 Z<|Ai Z<|ZN [0,0] Z ?_
 by_cases c3:ex.kind=((11:Nat):Int)
 ·refine Ap true Z Z (A5 c3) Aa<|Ac 1 Z<|Ah Z<|A0<|ZN [0] Z ?_
  have hwk:=Fj hwf oM
  have hwl:=J2 hwf oM
  refine Ac 1 Z<|A3 ?_
  have hMs:=av
  have hGs:=a1
  have hns:w.heap.size∉f8:=fun hm=>ab hm
  refine AT (S:=Nat×Value×Sr×List Nat×Tp×Nat×Int×Value×Value×Value) (fun⟨i,vk,ks,S9,T9,s9,c9,fr,vg9,vv9⟩=>([(9,vk),(10,zI (i:Int)),(0,zP g),(4,zP w.heap.size)])) (fun⟨i,vk,ks,S9,T9,s9,c9,fr,vg9,vv9⟩ W=>AA S w W∧BX W.heap g [vp,zI ip,fr,vg9,zN,vv9,zI (s9:Int),zI c9]∧BX W.heap w.heap.size [zI ex.kind,zI ex.num,zI ex.pick,zI ex.count,ve]∧i≤(ex.count).toNat∧w.heap.size∉S9∧Dy S S9 w W∧BG 46 177 2 S9 g W.heap fr vg9 vv9 T9∧Uo T T9 s0 s9 c9∧RN S9 (B5 rI) W.heap vk ks∧BV vk∧ks.length=(p.getD (ex.num).toNat Fn.zero).outs.length∧(c9=0→FD T9 ks)∧AM (DN (fun a t U=>E2 (Gs p (ex.num).toNat) (p.getD (ex.num).toNat Fn.zero).outs a t U) i f2 f5 f9) (ks,T9) s9 c9) (fun⟨i,vk,ks,S9,T9,s9,c9,fr,vg9,vv9⟩=>(ex.count).toNat-i) (0,f7,f2,f8,f9,f5,f6,fo,vg109,vv109) ⟨rfl,rfl,rfl,rfl,trivial⟩ ⟨a8,aj,ae,oM,hns,hGs,hMs,(by exact⟨by assumption,zO⟩),(by assumption),(by assumption),oM,hKb,(by exact⟨rfl,rfl,zO⟩)⟩ ?_
  clear j4 j5 hG0 ka d3 ga gb g2 g3 gd b0 a4 b1 a0 d5 ac av ct a8 ae a1
  rintro⟨i,vk,ks,S9,T9,s9,c9,fr,vg9,vv9⟩ ρ131 fa ⟨ak,a5,a6,g7,hnb,hGl,hMl,hPl,hrk,hck,hkl,hkb,hrl9⟩
  have is:w.heap.size≤fa.heap.size:=ak.size
  have k4:=a5.lt
  have k5:=a6.lt
  have hnl:=hPl.num
  have hbl:=hPl.bnd
  refine A0<|ZN [0,0,2,0,0,0,0,0,2,0,0] Z<|Ad 1 Z<|Ak (p:=zP w.heap.size) 3 CC Z Z Aa<|Ae (p:=An (zP w.heap.size) 3) (.inr Z) (zI ex.count) AC Z (a6.ldp (i:=3) sM) Aa ?_
  by_cases c4:(i:Int)<ex.count
  ·refine AE true Z Z (A5 c4) Aa<|Ad 2 Z<|Bb Z (Ag (e:=156) Z Z Z)<|Ak (p:=zP g) 7 Fl Z Z (Ag (e:=156) Z Z Z)<|Ae (p:=An (zP g) 7) (.inr Z) (zI c9) AC Z (a5.ldp (i:=7) sM) (Ag (e:=156) Z Z Z) ?_
   by_cases c5:c9=((0:Nat):Int)
   ·refine Ap true Z Z (A5 c5) (Ag (e:=156) Z Z Z)<|Ac 1 Z<|Ah Z<|A2<|A0<|A3<|AO _ [0,0,0,0,0,1,0,1,0,0,1,0,4,0] mixed (by kernel_rfl)<|Ad 2 Z ?_
    have hvo:=hvp.outs (ex.num).toNat oM
    refine Bb Z Aa<|Ak (p:=zP g) 0 PY Z Z Aa<|Ak (p:=An (zP g) 0) (b:=g) (o:=0) 0 BA Z Z Aa<|Ae (p:=An (An (zP g) 0) 0) (.inl Z) vp C5 Z (a5.ldp (i:=0) sM) Aa<|Ak (p:=zP w.heap.size) 1 Bw Z Z Aa<|Ae (p:=An (zP w.heap.size) 1) (.inl Z) (zI ex.num) AC Z (a6.ldp (i:=1) sM) Aa ?_
    refine Au (v:=vp) ((ex.num).toNat) Fq C9 Z Z hp.isSl oM sD Aa ?_
    obtain⟨cs136,ep,c6⟩:=hp.get (Ax dp) Fn.zero (k:=(ex.num).toNat) sD
    obtain⟨bh,rfl,c7⟩:=RF.of ep
    have cz:=c7.rn.lenle
    unfold maxLen at cz
    refine AD (p:=Aw vp ((ex.num).toNat) 3) 2 BQ Z (c6 _ ak.drew) Aa<|Ae (p:=An (Aw vp ((ex.num).toNat) 3) 2) (.inl Z) bh Ba Z ((c6 _ ak.drew).ld (i:=2) (by simp[DQ,DU])) Aa<|Ad 1 Z ?_
    refine AI 59 [] [] [zP g,bh,vk] Z Z VN Aa (OY (ex.num).toNat dp (fun d9 h9=>IH1 (ex.num).toNat oM d9) _ S9 g vp dp ip (s9) (c9) p (T9) bh ((p.getD ((ex.num).toNat) Fn.zero).outs) vk (ks) (fun b hb=>(hGl.drew.lt b hb:b<fa.heap.size)) (hGl.drew.sub _ hgS) ⟨_,_,_,a5,hMl⟩ (RN.stp (Al<|Ax dp) hp ak.drew hGl.drew.new) _hip oM oM GV (RN.stp (Al<|Aq dp) c7.rn ak.drew hGl.drew.new) hrk hck hvp oM (by intro k hk;have h9:=hvp.wf (ex.num).toNat oM k hk;rw[show(ks.length:Int)=(p.getD (ex.num).toNat Fn.zero).params from by omega];exact h9) (by intro k hk;have:=hvp.deep (ex.num).toNat oM k hk;omega) oM hkb) ?_
    rintro mp fs ⟨lf,ft,ff,fu,fv,fw,rfl,a3,⟨fx,vg137,vv137,eq,er⟩,c8,es,it,iu,iv,iw⟩
    refine⟨_,rfl,?_⟩
    replace a3:=a3.of_drew
    have ix:fa.heap.size≤fs.heap.size:=a3.chg.size
    have et:AA S w fs:=ak.stp a3.chg hGl.new
    have eu:=a6.chg a3.chg fun hm=>hnb hm
    have bs:w.heap.size∉ff:=fun hm=>(a3.new _ hm).elim (fun hm=>hnb hm) (fun h9=>by omega)
    have k6:=RN.stp g1 hrk a3.chg a3.new
    have ev:=hGl.trans a3
    have iy:=c8.bnd
    have iz:=c8.num
    have j0:=es.rn
    refine Ac 1 Z<|Ab _ [0,0,0] Z<|Ad 1 Z<|AQ ((i+1:Nat):Int) Z Z (Be oM oM) Aa<|Ac 1 Z ?_
    have hMe:=er
    have hGe:=ev
    have hPe:Uo T fu s0 fv fw:=⟨by assumption,zO⟩
    have hne:w.heap.size∉ff:=fun hm=>bs hm
    exact⟨(i+1,lf,ft,ff,fu,fv,fw,fx,vg137,vv137),_,rfl,zR,⟨et,eq,eu,oM,hne,hGe,hMe,hPe,(by assumption),(by assumption),oM,(by assumption),(by exact VB hrl9 oM (by assumption))⟩,zD⟩
   refine Ap false Z Z (A6 c5) (Ag (e:=156) Z Z Z)<|Ac 1 Z<|Ai Z<|A4<|Ay<|Ay<|At<|ZN [0,0,2,0,2,0] Z ?_
   have hkb9:=fun h9:c9=0=>hkb h9 (ex.pick).toNat oM
   refine Ad 1 Z<|Ak (p:=zP w.heap.size) 2 Cn Z Z Aa<|Ae (p:=An (zP w.heap.size) 2) (.inr Z) (zI ex.pick) AC Z (a6.ldp (i:=2) sM) Aa<|Au (v:=vk) ((ex.pick).toNat) Bl BD Z Z hrk.slL oM oM Aa ?_
   have ca:=RN.getI (w:=fa) (k:=(ex.pick).toNat) hrk oM
   refine Ae (p:=Aw vk ((ex.pick).toNat) 1) (.inr Z) (zI<|ks.getD ((ex.pick).toNat) 0) AC Z (ca.1 _<|AA.refl _ _) Aa<|Ac 1 Z<|A1<|AH<|Ao ?_
   exact Af [6] Z (zI<|ks.getD ((ex.pick).toNat) 0) Z ⟨ks.getD ((ex.pick).toNat) 0,_,T9,s9,c9,rfl,hGl,⟨_,_,_,a5,hMl⟩,⟨Er,oM⟩,Ep,ca.2,Eo⟩
  refine AE false Z Z (A6 c4) Aa<|Ac 7 Z<|Ai Z<|A4<|Ay<|Ay<|At<|ZN [0,0,2,0,2,0] Z ?_
  have hkb9:=fun h9:c9=0=>hkb h9 (ex.pick).toNat oM
  refine Ad 1 Z<|Ak (p:=zP w.heap.size) 2 Cn Z Z Aa<|Ae (p:=An (zP w.heap.size) 2) (.inr Z) (zI ex.pick) AC Z (a6.ldp (i:=2) sM) Aa<|Au (v:=vk) ((ex.pick).toNat) Bl BD Z Z hrk.slL oM oM Aa ?_
  have cb:=RN.getI (w:=fa) (k:=(ex.pick).toNat) hrk oM
  refine Ae (p:=Aw vk ((ex.pick).toNat) 1) (.inr Z) (zI<|ks.getD ((ex.pick).toNat) 0) AC Z (cb.1 _<|AA.refl _ _) Aa<|Ac 1 Z<|A1<|AH<|Ao ?_
  exact Af [6] Z (zI<|ks.getD ((ex.pick).toNat) 0) Z ⟨ks.getD ((ex.pick).toNat) 0,_,T9,s9,c9,rfl,hGl,⟨_,_,_,a5,hMl⟩,⟨Er,oM⟩,Ep,cb.2,Eo⟩
 refine Ap false Z Z (A6 c3) Aa<|Ac 1 Z<|Ai Z<|A2<|ZN [0,0,2,0,0,0,4,0] Z ?_
 have hkb9:=hKb oM
 have l2:3≤ex.kind∧ex.kind≤7:=by have:=(D0 (CJ hwf)).1;omega
 have hkl:1≤ex.kids.length∧(ex.kind≠7→2≤ex.kids.length):=by by_cases h7:ex.kind=7;(have:=MM hwf h7;omega);(have:=Im hwf oM;omega)
 refine Ad 1 Z<|Ak (p:=zP w.heap.size) 0 BC Z Z Aa<|Ae (p:=An (zP w.heap.size) 0) (.inr Z) (zI ex.kind) AC Z (ae.ldp (i:=0) sM) Aa<|Bi (ex.kind-((3:Nat):Int)) Z Z (CT oM oM) Aa<|AQ ex.kind Z Z (Z3 oM oM oM) Aa<|Ad 1 Z ?_
 refine AI 170 [] [] [zP g,zI ex.kind,f7] Z Z Y7 Aa (FP _ f8 g vp dp ip (f5) (f6) p (f9) (ex.kind) f7 (f2) (fun b hb=>(a1.lt b hb:b<f4.heap.size)) (a1.sub _ hgS) ⟨_,_,_,aj,av⟩ (RN.stp (Al<|Ax dp) hp a8 a1.new) _hip oM oM GV oM am bc oM oM hkb9 oM) ?_
 rintro mq fy ⟨fz,lg,lh,li,rfl,a9,⟨lx,vg148,vv148,ew,ey⟩,j1,j2,d0,d1,d2⟩
 refine⟨_,rfl,?_⟩
 have j3:f4.heap.size≤fy.heap.size:=a9.chg.size
 have k7:AA S w fy:=a8.stp a9.chg a1.new
 have k8:=ae.chg a9.chg fun hm=>ab hm
 have g8:w.heap.size∉lg:=fun hm=>(a9.new _ hm).elim (fun hm=>ab hm) (fun h9=>by omega)
 have k9:=RN.stp g1 am a9.chg a9.new
 have ez:=a1.trans a9
 have hRv:=d0
 have hL2:=d2
 refine Ac 1 Z<|A1 ?_
 exact Af [6] Z (zI fz) Z ⟨fz,_,lh,f5,li,rfl,ez,⟨_,_,_,ew,ey⟩,⟨Er,oM⟩,Ep,d1,Eo⟩
end
end Go.Proofs.YtjnbnlniafmblaaGreat
