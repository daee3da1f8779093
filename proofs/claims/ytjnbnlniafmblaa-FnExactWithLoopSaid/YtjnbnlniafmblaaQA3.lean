/- Zm, Zl: texts of this claim, joined; what the claim does not come to is left out. -/
import Derived.Test.YtjnbnlniafmblaaQA2
import Derived.Test.YtjnbnlniafmblaaProg
set_option linter.unusedVariables false
set_option linter.unusedSimpArgs false
namespace Go.Proofs.Ytjnbnlniafmblaa
open Go Go.RowKit
section
set_option maxHeartbeats 4000000
set_option maxRecDepth 100000
attribute [local irreducible] LW
def TS (D:Nat):Prop:=∀(w:World) (d:Nat) (va:Value) (a:List Ex) (ha:RN [] (Ct 5 (DL d)) w.heap va a) (hs:Ex.sizes a≤1000000000) (hd:d≤D),Calls Try.prog 144 #[va] w (fun e w'=>∃v,e=.returned v∧Az w w'∧Fr (Be 5 (BR 46 d) 46) w.heap.size w'.heap.size w'.heap v a)
theorem Fu (w:World)(dex:Nat)(ve:Value)(ex:Ex)(hex:RX [] dex w.heap ve ex)(hs:Ex.sizes ex.kids≤1000000000)(IH:TS dex) :
    Calls Try.prog 155 #[(.agg #[(zI ex.kind),(zI ex.num),(zI ex.pick),(zI ex.count),ve])] w (fun e w'=>∃v,e=.returned (.agg #[zI ex.kind,zI ex.num,zI ex.pick,zI ex.count,v])∧Az w w'∧Fr (Be 5 (BR 46 dex) 46) w.heap.size w'.heap.size w'.heap v ex.kids):=by
  refine Aw [.agg #[zI ex.kind,zI ex.num,zI ex.pick,zI ex.count,ve]] 21 Try.func155 Z Z sM ?_
  have bh:Az w w:=Az.refl w
  have b3:=hex.rn.lenle
  unfold maxLen at b3
  refine L9 [3,3] Z (Bf (cs:=#[zI ex.kind,zI ex.num,zI ex.pick,zI ex.count,ve]) Z Aa fun w1 b7 bx ar=>?_)
  have bi:=b7.size
  have bj:=bh.trans b7
  replace ar:BX w1.heap w.heap.size [zI ex.kind,zI ex.num,zI ex.pick,zI ex.count,ve]:=ar
  have bz:=ar.lt
  refine AI (z:=.agg #[zI 0,zI 0,zI 0,zI 0,zN]) DC Aa fun w2 ax c0 au=>?_
  have bk:=ax.size
  have bl:=bj.trans ax
  have aa:=ar.ext ax
  replace au:BX w2.heap w1.heap.size [zI 0,zI 0,zI 0,zI 0,zN]:=au
  refine Ai<|L9 [3] Z ?_
  have c1:=aa.lt
  have c2:=au.lt
  refine AI (z:=.agg #[zI 0,zI 0,zI 0,zI 0,zN]) DC Aa fun w4 av c3 ay=>?_
  have bm:=av.size
  have b8:=bl.trans av
  have ab:=aa.ext av
  have ag:=au.ext av
  replace ay:BX w4.heap w2.heap.size [zI 0,zI 0,zI 0,zI 0,zN]:=ay
  refine Ai<|L9 [0,2,0,4] Z<|Ao (p:=zP w.heap.size) 0 IO Z Z Aa<|Al (p:=Ar (zP w.heap.size) 0) (.inr Z) (zI ex.kind) AT Z (ab.ldp (i:=0) sM) Aa<|Ao (p:=zP w2.heap.size) 0 BH Z Z Aa (Bm (k:=0) (w:=w4) Ix Z Z ⟨rfl,rfl⟩ ay sM Aa fun w7 aw c4 az=>?_)
  replace az:BX w7.heap w2.heap.size [zI ex.kind,zI 0,zI 0,zI 0,zN]:=az
  have b9:Az w w7:=aw.below b8 (fun _ h=>zE h) b8.size
  have bn:w4.heap.size≤w7.heap.size:=aw.size
  have ba:=ab.chg aw (zB ·)
  have bo:=ag.chg aw (zB ·)
  refine Ai<|L9 [0,2,0,4] Z<|Ao (p:=zP w.heap.size) 1 IP Z Z Aa<|Al (p:=Ar (zP w.heap.size) 1) (.inr Z) (zI ex.num) AT Z (ba.ldp (i:=1) sM) Aa<|Ao (p:=zP w2.heap.size) 1 Bx Z Z Aa (Bm (k:=1) (w:=w7) Ix Z Z ⟨rfl,rfl⟩ az sM Aa fun bv a3 bp ac=>?_)
  replace ac:BX bv.heap w2.heap.size [zI ex.kind,zI ex.num,zI 0,zI 0,zN]:=ac
  have ah:Az w bv:=a3.below b9 (fun _ h=>zE h) b9.size
  have bb:w7.heap.size≤bv.heap.size:=a3.size
  have ai:=ba.chg a3 (zB ·)
  have b0:=bo.chg a3 (zB ·)
  refine Ai<|L9 [0,2,0,4] Z<|Ao (p:=zP w.heap.size) 2 IQ Z Z Aa<|Al (p:=Ar (zP w.heap.size) 2) (.inr Z) (zI ex.pick) AT Z (ai.ldp (i:=2) sM) Aa<|Ao (p:=zP w2.heap.size) 2 Cy Z Z Aa (Bm (k:=2) (w:=bv) Ix Z Z ⟨rfl,rfl⟩ ac sM Aa fun bw a4 bq ad=>?_)
  replace ad:BX bw.heap w2.heap.size [zI ex.kind,zI ex.num,zI ex.pick,zI 0,zN]:=ad
  have aj:Az w bw:=a4.below ah (fun _ h=>zE h) ah.size
  have bc:bv.heap.size≤bw.heap.size:=a4.size
  have ak:=ai.chg a4 (zB ·)
  have b1:=b0.chg a4 (zB ·)
  refine Ai<|L9 [0,2,0,4] Z<|Ao (p:=zP w.heap.size) 3 IR Z Z Aa<|Al (p:=Ar (zP w.heap.size) 3) (.inr Z) (zI ex.count) AT Z (ak.ldp (i:=3) sM) Aa<|Ao (p:=zP w2.heap.size) 3 C2 Z Z Aa (Bm (k:=3) (w:=bw) Ix Z Z ⟨rfl,rfl⟩ ad sM Aa fun c6 a5 br ae=>?_)
  replace ae:BX c6.heap w2.heap.size [zI ex.kind,zI ex.num,zI ex.pick,zI ex.count,zN]:=ae
  have al:Az w c6:=a5.below aj (fun _ h=>zE h) aj.size
  have bd:bw.heap.size≤c6.heap.size:=a5.size
  have am:=ak.chg a5 (zB ·)
  have b2:=b1.chg a5 (zB ·)
  refine Ai<|L9 [0,2,3,0,4] Z<|Ao (p:=zP w.heap.size) 4 H7 Z Z Aa<|Al (p:=Ar (zP w.heap.size) 4) (.inr Z) ve FV Z (am.ldp (i:=4) sM) Aa<|As 144 [] [] [ve] Z Z Ja Aa (IH _ dex ve (ex.kids) (hex.rn.ext (Ax<|AB dex) al) hs oM) ?_
  rintro c9 c8 ⟨a6,rfl,a0,an⟩
  refine⟨_,rfl,a0,?_⟩
  have be:=a0.size
  have ao:=al.trans a0
  have a7:=b2.ext a0
  have a8:=ae.ext a0
  refine Ao (p:=zP w2.heap.size) 4 B5 Z Z Aa (Bm (k:=4) (w:=c8) E1 Z Z (AM an.isSlS) a8 sM Aa fun c5 a1 bs a9=>?_)
  replace a9:BX c5.heap w2.heap.size [zI ex.kind,zI ex.num,zI ex.pick,zI ex.count,a6]:=a9
  have ap:Az w c5:=a1.below ao (fun _ h=>zE h) ao.size
  have bf:c8.heap.size≤c5.heap.size:=a1.size
  have b4:=a7.chg a1 (zB ·)
  have aq:=an.chg (Ad<|An 46 dex) a1 fun _ h=>zA h
  refine Ai<|L9 [2,4] Z<|Au (p:=zP w2.heap.size) (.inr Z) [zI ex.kind,zI ex.num,zI ex.pick,zI ex.count,a6] B8 Z (fun ca bt=>LD.of_box<|BX.ext (w:=c5) a9 bt) Z Aa (AP (vs:=[zI ex.kind,zI ex.num,zI ex.pick,zI ex.count,a6]) B8 Z Z (by intro u hu;simp only[ze,z2,or_false]at hu;rcases hu with rfl|rfl|rfl|rfl|rfl <;> first|exact⟨rfl,rfl⟩|exact AM aq.isSlS) b4 Z Z Aa fun c7 a2 bu af=>?_)
  replace af:BX c7.heap w1.heap.size [zI ex.kind,zI ex.num,zI ex.pick,zI ex.count,a6]:=af
  have b5:Az w c7:=a2.below ap (fun _ h=>zE h) ap.size
  have bg:c5.heap.size≤c7.heap.size:=a2.size
  have b6:=aq.chg (Ad<|An 46 dex) a2 fun _ h=>zA h
  exact Ai<|A1<|C4 (cs:=[zI ex.kind,zI ex.num,zI ex.pick,zI ex.count,a6]) Z B8 Z af Z ⟨a6,rfl,b5,(b6.up<|Ad<|An 46 dex).low (B':=w.heap.size) oM⟩
theorem Fe (w:World)(da:Nat)(va:Value)(a:List Ex)(ha:RN [] (Ct 5 (DL da)) w.heap va a)(hs:Ex.sizes a≤1000000000) :
    Calls Try.prog 144 #[va] w (fun e w'=>∃v,e=.returned v∧Az w w'∧Fr (Be 5 (BR 46 da) 46) w.heap.size w'.heap.size w'.heap v a):=by
  induction da using Nat.strongRecOn generalizing w va a
  rename_i da ih
  refine Aw [va] 23 Try.func144 Z Z sM ?_
  have aa:Az w w:=Az.refl w
  have ax:=ha.lenle
  unfold maxLen at ax
  have ah:=BW a 0
  refine La Z<|L9 [0,0,3,0] Z<|Ag 1 Z<|AS (v:=va) Gv Z ha.isSl Aa (GT (n:=a.length) (zs:=Ch Ex.zero zN) (z0:=Ex.zero) (An 46 da) Bw B1 Z Z Z Z Z (by decide) oM (fun h0 H=>HN (RN.exPos ha h0) H) Aa fun v1 w1 a4 ai ab=>?_)
  have a5:=a4.size
  have ac:=aa.trans a4
  refine Ac 1 Z<|A0<|La Z<|A3 ?_
  refine AW (S:=Nat) (fun k=>([(4,zI (k:Int)),(0,va),(3,v1)])) (fun k W=>Az w W∧Fr (Be 5 (BR 46 da) 46) w.heap.size W.heap.size W.heap v1 (a.take k++List.replicate (a.length-k) Ex.zero)∧k≤a.length) (fun k=>a.length-k) 0 ⟨rfl,rfl,rfl,trivial⟩ ⟨ac,(by simpa using ab.up (Ad<|An 46 da)),sD⟩ ?_
  clear aa ab ai a4 a5 ac
  rintro k ρ2 w2 ⟨a2,a1,ad⟩
  have aj:w.heap.size≤w2.heap.size:=a2.size
  have hml:(a.take k++List.replicate (a.length-k) Ex.zero).length=a.length:=by rw[z4,List.length_take,z5];omega
  refine A0<|L9 [0,0,0,0] Z<|Ag 2 Z<|AS (v:=va) Gv Z ha.isSl Aa ?_
  by_cases ae:(k:Int)<(a.length:Int)
  ·
    refine AA true Z Z (A5 ae) Aa<|Ai<|Ah Z<|A2<|A0<|A3<|Ab _ [0,0,0,0,0,2,3,0,4] Z ?_
    have hsa:=Da (l:=a) (k:=k) oM
    have hsk:=Bv<|a.getD k Ex.zero
    refine Ag 4 Z<|AN (v:=va) k Gv I7 Z Z ha.isSl Z sD Aa ?_
    obtain⟨cs4,ak,al⟩:=ha.get (AB da) Ex.zero (k:=k) sD
    obtain⟨dd4,a6,am,rfl,a7⟩:=RX.of ak
    have a8:=a7.rn.lenle
    unfold maxLen at a8
    refine Au (p:=AE va k 5) (.inr Z) [zI<|(a.getD k Ex.zero).kind,zI<|(a.getD k Ex.zero).num,zI<|(a.getD k Ex.zero).pick,zI<|(a.getD k Ex.zero).count,a6] I6 Z (fun ay an=>al ay<|AG.of_ext []<|a2.trans an) Z Aa<|As 155 [] [] [.agg #[zI<|(a.getD k Ex.zero).kind,zI<|(a.getD k Ex.zero).num,zI<|(a.getD k Ex.zero).pick,zI<|(a.getD k Ex.zero).count,a6]] Z Z Ki Aa (Fu _ dd4 a6 (a.getD k Ex.zero) (a7.ext a2) oM (by intro w9 d9 v9 a9 h1 h2 h3;exact ih d9 oM w9 v9 a9 h1 h2)) ?_
    rintro e5 w5 ⟨v5,rfl,a3,ao⟩
    refine⟨_,rfl,a3,?_⟩
    have ap:=a3.size
    have af:=a2.trans a3
    have a0:=a1.ext (Ad<|An 46 da) a3
    refine AN (v:=v1) k Bw B1 Z Z a0.isSlS Z sD Aa ?_
    refine HH (v:=v1) (cs:=[zI<|(a.getD k Ex.zero).kind,zI<|(a.getD k Ex.zero).num,zI<|(a.getD k Ex.zero).pick,zI<|(a.getD k Ex.zero).count,v5]) (n:=a.getD k Ex.zero) (j:=k) (An 46 da) B8 Z Z a0 (JA (d':=dd4) am a7.rng ao) oM oM sD Aa fun w6 F6 ag aw aq ar=>?_
    have au:Az w w6:=ag.below af (fun c hc=>A8 (A7 _) (aq c hc).1) af.size
    have av:w5.heap.size≤w6.heap.size:=ag.size
    refine Ai<|Ab _ [0,0,0] Z<|Ag 1 Z<|AQ ((k+1:Nat):Int) Z Z (Bn oM sD) Aa<|Ac 1 Z ?_
    exact⟨k+1,_,rfl,zR,⟨au,(by have h:=ar.up (Ad (An 46 da));rwa [Gd oM]at h),sD⟩,zD⟩
  
   exact AA false Z Z (A6 ae) Aa<|Ai<|Ak Z<|A4<|AD<|AD<|Ay<|L9 [0,0] Z<|Ac 2 Z<|A1<|Af [2] Z v1 Z ⟨v1,rfl,a2,(by have h:=((a1.up<|Ad<|An 46 da).low (B':=w.heap.size) oM);rwa [show a.take k++List.replicate (a.length-k) Ex.zero=a from by rw[za oM,show a.length-k=0 from by omega];simp]at h)⟩
theorem Fv (w:World)(dg:Nat)(vf:Value)(g:Fn)(hg:RF [] dg w.heap vf g)(hs:Ex.sizes g.outs≤1000000000) :
    Calls Try.prog 120 #[(.agg #[(.string g.name),(zI g.params),vf])] w (fun e w'=>∃v,e=.returned (.agg #[.string g.name,zI g.params,v])∧Az w w'∧Fr (Be 5 (BR 46 dg) 46) w.heap.size w'.heap.size w'.heap v g.outs):=by
  refine Aw [.agg #[.string g.name,zI g.params,vf]] 15 Try.func120 Z Z sM ?_
  have b5:Az w w:=Az.refl w
  have ar:=hg.rn.lenle
  unfold maxLen at ar
  refine L9 [3,3] Z (Bf (cs:=#[.string g.name,zI g.params,vf]) Z Aa fun w1 ax bj aj=>?_)
  have b6:=ax.size
  have b7:=b5.trans ax
  replace aj:BX w1.heap w.heap.size [.string g.name,zI g.params,vf]:=aj
  have bk:=aj.lt
  refine AI (z:=.agg #[.string ByteArray.empty,zI 0,zN]) Fg Aa fun w2 an bl ak=>?_
  have b8:=an.size
  have b9:=b7.trans an
  have a8:=aj.ext an
  replace ak:BX w2.heap w1.heap.size [.string ByteArray.empty,zI 0,zN]:=ak
  refine Ai<|L9 [3] Z ?_
  have bm:=a8.lt
  have bn:=ak.lt
  refine AI (z:=.agg #[.string ByteArray.empty,zI 0,zN]) Fg Aa fun w4 al bo ao=>?_
  have ba:=al.size
  have ay:=b9.trans al
  have a9:=a8.ext al
  have ac:=ak.ext al
  replace ao:BX w4.heap w2.heap.size [.string ByteArray.empty,zI 0,zN]:=ao
  refine Ai<|L9 [0,2,0,4] Z<|Ao (p:=zP w.heap.size) 0 H5 Z Z Aa<|Al (p:=Ar (zP w.heap.size) 0) (.inr Z) (.string g.name) Dq Z (a9.ldp (i:=0) sM) Aa<|Ao (p:=zP w2.heap.size) 0 BS Z Z Aa (Bm (k:=0) (w:=w4) Le Z Z ⟨rfl,rfl⟩ ao sM Aa fun w7 am bp ap=>?_)
  replace ap:BX w7.heap w2.heap.size [.string g.name,zI 0,zN]:=ap
  have az:Az w w7:=am.below ay (fun _ h=>zE h) ay.size
  have bb:w4.heap.size≤w7.heap.size:=am.size
  have b0:=a9.chg am (zB ·)
  have bc:=ac.chg am (zB ·)
  refine Ai<|L9 [0,2,0,4] Z<|Ao (p:=zP w.heap.size) 1 IL Z Z Aa<|Al (p:=Ar (zP w.heap.size) 1) (.inr Z) (zI g.params) AT Z (b0.ldp (i:=1) sM) Aa<|Ao (p:=zP w2.heap.size) 1 Bh Z Z Aa (Bm (k:=1) (w:=w7) Ix Z Z ⟨rfl,rfl⟩ ap sM Aa fun bi a3 bd aa=>?_)
  replace aa:BX bi.heap w2.heap.size [.string g.name,zI g.params,zN]:=aa
  have ad:Az w bi:=a3.below az (fun _ h=>zE h) az.size
  have b1:w7.heap.size≤bi.heap.size:=a3.size
  have ae:=b0.chg a3 (zB ·)
  have aq:=bc.chg a3 (zB ·)
  refine Ai<|L9 [0,2,3,0,4] Z<|Ao (p:=zP w.heap.size) 2 H6 Z Z Aa<|Al (p:=Ar (zP w.heap.size) 2) (.inr Z) vf FV Z (ae.ldp (i:=2) sM) Aa<|As 144 [] [] [vf] Z Z Ja Aa (Fe _ dg vf (g.outs) (hg.rn.ext (Ax<|AB dg) ad) hs) ?_
  rintro bs br ⟨a4,rfl,a0,af⟩
  refine⟨_,rfl,a0,?_⟩
  have b2:=a0.size
  have ag:=ad.trans a0
  have a5:=aq.ext a0
  have a6:=aa.ext a0
  refine Ao (p:=zP w2.heap.size) 2 B2 Z Z Aa (Bm (k:=2) (w:=br) E1 Z Z (AM af.isSlS) a6 sM Aa fun bh a1 be a7=>?_)
  replace a7:BX bh.heap w2.heap.size [.string g.name,zI g.params,a4]:=a7
  have ah:Az w bh:=a1.below ag (fun _ h=>zE h) ag.size
  have b3:br.heap.size≤bh.heap.size:=a1.size
  have au:=a5.chg a1 (zB ·)
  have ai:=af.chg (Ad<|An 46 dg) a1 fun _ h=>zA h
  refine Ai<|L9 [2,4] Z<|Au (p:=zP w2.heap.size) (.inr Z) [.string g.name,zI g.params,a4] BO Z (fun bt bf=>LD.of_box<|BX.ext (w:=bh) a7 bf) Z Aa (AP (vs:=[.string g.name,zI g.params,a4]) BO Z Z (by intro u hu;simp only[ze,z2,or_false]at hu;rcases hu with rfl|rfl|rfl <;> first|exact⟨rfl,rfl⟩|exact AM ai.isSlS) au Z Z Aa fun bq a2 bg ab=>?_)
  replace ab:BX bq.heap w1.heap.size [.string g.name,zI g.params,a4]:=ab
  have av:Az w bq:=a2.below ah (fun _ h=>zE h) ah.size
  have b4:bh.heap.size≤bq.heap.size:=a2.size
  have aw:=ai.chg (Ad<|An 46 dg) a2 fun _ h=>zA h
  exact Ai<|A1<|C4 (cs:=[.string g.name,zI g.params,a4]) Z BO Z ab Z ⟨a4,rfl,av,(aw.up<|Ad<|An 46 dg).low (B':=w.heap.size) oM⟩
theorem Ff (w:World)(da:Nat)(va:Value)(a:List Fn)(ha:RP [] da w.heap va a)(hs:Gm a≤1000000000) :
    Calls Try.prog 81 #[va] w (fun e w'=>∃v,e=.returned v∧Az w w'∧Fr (Be 3 (CU 46 da) 49) w.heap.size w'.heap.size w'.heap v a):=by
  refine Aw [va] 23 Try.func81 Z Z sM ?_
  have a9:Az w w:=Az.refl w
  have au:=ha.lenle
  unfold maxLen at au
  have hsz:Gm a=a.length+Fn.szs a:=rfl
  refine La Z<|L9 [0,0,3,0] Z<|Ag 1 Z<|AS (v:=va) JE Z ha.isSl Aa (GT (n:=a.length) (zs:=Ci Fn.zero zN) (z0:=Fn.zero) (Aj 46 da) C1 B4 Z Z Z Z Z (by decide) oM (fun _ H=>HO H) Aa fun v1 w1 a5 ag aa=>?_)
  have a6:=a5.size
  have ab:=a9.trans a5
  refine Ac 1 Z<|A0<|La Z<|A3 ?_
  refine AW (S:=Nat) (fun k=>([(4,zI (k:Int)),(0,va),(3,v1)])) (fun k W=>Az w W∧Fr (Be 3 (CU 46 da) 49) w.heap.size W.heap.size W.heap v1 (a.take k++List.replicate (a.length-k) Fn.zero)∧k≤a.length) (fun k=>a.length-k) 0 ⟨rfl,rfl,rfl,trivial⟩ ⟨ab,(by simpa using aa.up (Ad<|Aj 46 da)),sD⟩ ?_
  clear a9 aa ag a5 a6 ab
  rintro k ρ2 w2 ⟨a2,a1,ac⟩
  have ah:w.heap.size≤w2.heap.size:=a2.size
  have hml:(a.take k++List.replicate (a.length-k) Fn.zero).length=a.length:=by rw[z4,List.length_take,z5];omega
  refine A0<|L9 [0,0,0,0] Z<|Ag 2 Z<|AS (v:=va) JE Z ha.isSl Aa ?_
  by_cases ad:(k:Int)<(a.length:Int)
  ·
    refine AA true Z Z (A5 ad) Aa<|Ai<|Ah Z<|A2<|A0<|A3<|Ab _ [0,0,0,0,0,2,3,0,4] Z ?_
    have hsa:=HM (l:=a) (k:=k) oM
    have hsk:(a.getD k Fn.zero).sz=(a.getD k Fn.zero).name.size+Ex.sizes (a.getD k Fn.zero).outs:=rfl
    refine Ag 4 Z<|AN (v:=va) k JE I5 Z Z ha.isSl Z sD Aa ?_
    obtain⟨cs4,ai,aj⟩:=ha.get (Aq da) Fn.zero (k:=k) sD
    obtain⟨a7,rfl,a3⟩:=RF.of ai
    have a8:=a3.rn.lenle
    unfold maxLen at a8
    refine Au (p:=AE va k 3) (.inr Z) [.string<|(a.getD k Fn.zero).name,zI<|(a.getD k Fn.zero).params,a7] I4 Z (fun av ak=>aj av<|AG.of_ext []<|a2.trans ak) Z Aa<|As 120 [] [] [.agg #[.string<|(a.getD k Fn.zero).name,zI<|(a.getD k Fn.zero).params,a7]] Z Z K4 Aa (Fv _ da a7 (a.getD k Fn.zero) ⟨a3.rng,a3.rn.ext (Ax<|AB da) a2⟩ oM) ?_
    rintro e5 w5 ⟨v5,rfl,a4,al⟩
    refine⟨_,rfl,a4,?_⟩
    have am:=a4.size
    have ae:=a2.trans a4
    have a0:=a1.ext (Ad<|Aj 46 da) a4
    refine AN (v:=v1) k C1 B4 Z Z a0.isSlS Z sD Aa ?_
    refine HH (v:=v1) (cs:=[.string<|(a.getD k Fn.zero).name,zI<|(a.getD k Fn.zero).params,v5]) (n:=a.getD k Fn.zero) (j:=k) (Aj 46 da) BO Z Z a0 (JB a3.rng al) oM oM sD Aa fun w6 F6 af ar an ao=>?_
    have ap:Az w w6:=af.below ae (fun c hc=>A8 (A7 _) (an c hc).1) ae.size
    have aq:w5.heap.size≤w6.heap.size:=af.size
    refine Ai<|Ab _ [0,0,0] Z<|Ag 1 Z<|AQ ((k+1:Nat):Int) Z Z (Bn oM sD) Aa<|Ac 1 Z ?_
    exact⟨k+1,_,rfl,zR,⟨ap,(by have h:=ao.up (Ad (Aj 46 da));rwa [Gd oM]at h),sD⟩,zD⟩
  
   exact AA false Z Z (A6 ad) Aa<|Ai<|Ak Z<|A4<|AD<|AD<|Ay<|L9 [0,0] Z<|Ac 2 Z<|A1<|Af [2] Z v1 Z ⟨v1,rfl,a2,(by have h:=((a1.up<|Ad<|Aj 46 da).low (B':=w.heap.size) oM);rwa [show a.take k++List.replicate (a.length-k) Fn.zero=a from by rw[za oM,show a.length-k=0 from by omega];simp]at h)⟩
theorem BQ (w:World)(dp:Nat)(vp:Value)(p:List Fn)(hp:RP [] dp w.heap vp p)(hs:Gm p≤1000000000) :
    Calls Try.prog 32 #[(.agg #[vp])] w (fun e w'=>∃v,e=.returned (.agg #[v])∧Az w w'∧Fr (Be 3 (CU 46 dp) 49) w.heap.size w'.heap.size w'.heap v p):=by
  refine Aw [.agg #[vp]] 9 Try.func32 Z Z sM ?_
  have aq:Az w w:=Az.refl w
  have a6:=hp.lenle
  unfold maxLen at a6
  refine L9 [3,3] Z (Bf (cs:=#[vp]) Z Aa fun w1 ak b5 ab=>?_)
  have ar:=ak.size
  have au:=aq.trans ak
  replace ab:BX w1.heap w.heap.size [vp]:=ab
  have b6:=ab.lt
  refine AI (z:=.agg #[zN]) DD Aa fun w2 af b7 ac=>?_
  have av:=af.size
  have aw:=au.trans af
  have a1:=ab.ext af
  replace ac:BX w2.heap w1.heap.size [zN]:=ac
  refine Ai<|L9 [3] Z ?_
  have b8:=a1.lt
  have b9:=ac.lt
  refine AI (z:=.agg #[zN]) DD Aa fun w4 ad ba ag=>?_
  have ax:=ad.size
  have al:=aw.trans ad
  have a2:=a1.ext ad
  have a5:=ac.ext ad
  replace ag:BX w4.heap w2.heap.size [zN]:=ag
  refine Ai<|L9 [0,2,3,0,4] Z<|Ao (p:=zP w.heap.size) 0 I3 Z Z Aa<|Al (p:=Ar (zP w.heap.size) 0) (.inr Z) vp Je Z (a2.ldp (i:=0) sM) Aa<|As 81 [] [] [vp] Z Z KT Aa (Ff _ dp vp (p) (hp.ext (Ax<|Aq dp) al) hs) ?_
  rintro e7 w7 ⟨v7,rfl,a4,am⟩
  refine⟨_,rfl,a4,?_⟩
  have ay:=a4.size
  have an:=al.trans a4
  have a7:=a5.ext a4
  have a8:=ag.ext a4
  refine Ao (p:=zP w2.heap.size) 0 AO Z Z Aa (Bm (k:=0) (w:=w7) Hs Z Z (AM am.isSlS) a8 sM Aa fun w8 a9 bb ae=>?_)
  replace ae:BX w8.heap w2.heap.size [v7]:=ae
  have ao:Az w w8:=a9.below an (fun _ h=>zE h) an.size
  have az:w7.heap.size≤w8.heap.size:=a9.size
  have ah:=a7.chg a9 (zB ·)
  have aa:=am.chg (Ad<|Aj 46 dp) a9 fun _ h=>zA h
  refine Ai<|L9 [2,4] Z<|Au (p:=zP w2.heap.size) (.inr Z) [v7] AL Z (fun b3 b1=>LD.of_box<|BX.ext (w:=w8) ae b1) Z Aa (AP (vs:=[v7]) AL Z Z (by intro u hu;simp only[ze,z2,or_false]at hu;rcases hu with rfl <;> first|exact⟨rfl,rfl⟩|exact AM aa.isSlS) ah Z Z Aa fun b0 a0 b2 a3=>?_)
  replace a3:BX b0.heap w1.heap.size [v7]:=a3
  have ai:Az w b0:=a0.below ao (fun _ h=>zE h) ao.size
  have ap:w8.heap.size≤b0.heap.size:=a0.size
  have aj:=aa.chg (Ad<|Aj 46 dp) a0 fun _ h=>zA h
  exact Ai<|A1<|C4 (cs:=[v7]) Z AL Z a3 Z ⟨v7,rfl,ai,(aj.up<|Ad<|Aj 46 dp).low (B':=w.heap.size) oM⟩
theorem D3 (w:World)(k:Int)(_hk:BF k)(hk:0≤k∧k≤4000000000) :
    Calls Try.prog 129 #[zI k] w (fun e w'=>∃s,e=.returned (.string s)∧Az w w'∧s=HR k):=by
  refine Aw [zI k] 20 Try.func129 Z Z sM ?_
  have a0:Az w w:=Az.refl w
  refine La Z<|A0<|L9 [0,0] Z<|Ag 1 Z ?_
  by_cases a2:k≤((0:Nat):Int)
  ·
    exact D8 true Z Z (A5 a2) Aa<|Ai<|Ah Z<|La Z<|A1<|Am<|Af [2] Z (.string<|⟨#[109,48]⟩) Z ⟨⟨#[109,48]⟩,rfl,a0,(by unfold HR;first|rw[if_pos oM]|(rw[if_neg oM,hml,FG oM]))⟩
  
   refine D8 false Z Z (A6 a2) Aa<|Ai<|Ak Z<|A2<|La Z<|A0<|A3<|AW (S:=Int×ByteArray) (fun⟨l,s⟩=>([(0,zI l),(3,.string s)])) (fun⟨l,s⟩ W=>Az w W∧(0≤l∧l+(s.size:Int)≤k)∧Iw k.toNat k (⟨#[]⟩:ByteArray)=Iw l.toNat l s) (fun⟨l,s⟩=>l.toNat) (k,⟨#[]⟩) ⟨rfl,rfl,trivial⟩ ⟨a0,(by exact⟨zO,by show k+((0:Nat):Int)≤k;omega⟩),(by rfl)⟩ ?_
   clear a0
   rintro⟨l,s⟩ ρ2 w2 ⟨a1,a3,hml⟩
   have a6:w.heap.size≤w2.heap.size:=a1.size
   refine A0<|L9 [0,0] Z<|Ag 1 Z ?_
   by_cases a4:((0:Nat):Int)<l
   ·
     refine BJ true Z Z (A5 a4) Aa<|Ai<|Ah Z<|A2<|A3<|L9 [0,0,0,0,3,2,0,0,0] Z ?_
     have htm:0≤l.tmod ((10:Nat):Int)∧l.tmod ((10:Nat):Int)<10:=⟨Int.tmod_nonneg _ oM,Int.tmod_lt_of_pos _ oM⟩
     refine Ag 1 Z<|JL (l.tmod ((10:Nat):Int)) Z Z (by decide) Z Aa<|AQ (((48:Nat):Int)+l.tmod ((10:Nat):Int)) Z Z (Dy oM oM) Aa<|Jp (IntKind.u8.wrap (((48:Nat):Int)+l.tmod ((10:Nat):Int))) u3 u5 Z Z Aa (IY (u:=.int .u8<|IntKind.u8.wrap (((48:Nat):Int)+l.tmod ((10:Nat):Int))) (B:=w2.heap.size) IA Lf Ln Z Z (Lj (w2.heap.size) (w2.heap.size) _ ⟨rfl,rfl⟩) (A7 _) Aa fun v4 w4 a5 aa a7=>?_)
     have a8:=a5.size
     have a9:=a1.trans a5
     exact IS Lf u5 u9 Z a7 Aa<|Ag 1 Z<|HP (a:=(⟨#[UInt8.ofNat (IntKind.u8.wrap (((48:Nat):Int)+l.tmod ((10:Nat):Int))).toNat]⟩:ByteArray)) (b:=s) Z Z (by show 1+s.size≤9223372036854775807;omega) Aa<|Ac 1 Z<|Ab _ [0,0,0] Z<|Ag 1 Z<|JM (l / 10) Z Z (by decide) (by rw[Int.tdiv_eq_ediv_of_nonneg oM,Dy oM oM]) Aa<|Ac 1 Z ⟨(l / 10,(⟨#[UInt8.ofNat (IntKind.u8.wrap (((48:Nat):Int)+l.tmod ((10:Nat):Int))).toNat]⟩:ByteArray)++s),_,rfl,⟨rfl,rfl,trivial⟩,⟨a9,(by rw[ByteArray.size_append];show(0≤l / 10∧l / 10+((1+s.size:Nat):Int)≤k);omega),(by rw[hml,JQ oM])⟩,zD⟩
   
    exact BJ false Z Z (A6 a4) Aa<|Ai<|Ak Z<|A4<|AD<|AD<|Ay<|L9 [0,0,0] Z<|Ag 1 Z<|HP (a:=⟨#[109]⟩) (b:=s) Z Z (by show 1+s.size≤9223372036854775807;omega) Aa<|Ac 1 Z<|A1<|Af [2] Z (.string (⟨#[109]⟩++s)) Z ⟨⟨#[109]⟩++s,rfl,a1,(by unfold HR;first|rw[if_pos oM]|(rw[if_neg oM,hml,FG oM]))⟩
theorem Dh {p:Prop}(h:p:=by first|exact Dy oM oM|(rw[Dy oM oM];omega)):p:=h
theorem Ea (w:World)(da:Nat)(va:Value)(a:List Ex)(Fa:List Nat)(k:Int)(ha:Be 5 (BR 46 da) 46 w.heap va a Fa)(hna:Fa.Nodup)(_hk:BF k)(hk:0≤k∧k+4*((Ex.sizes a:Nat):Int)≤4000000000) :
    Calls Try.prog 130 #[va,zI k] w (fun e w'=>e=.returned (zI (k+4*((Ex.sizes a:Nat):Int)))∧AG Fa w w'∧Be 5 (BR 46 da) 46 w'.heap va (CJ k a) Fa):=by
  induction da using Nat.strongRecOn generalizing w va a Fa k
  rename_i da ih
  refine Aw [va,zI k] 48 Try.func130 Z Z sM ?_
  have al:AG Fa w w:=AG.refl Fa w
  have bc:=ha.lenle
  unfold maxLen at bc
  have aw:=BW a 0
  have b8:a.length≤Ex.sizes a:=by omega
  refine La Z<|A0<|La Z<|A3<|AW (S:=Nat×Int) (fun⟨j,l⟩=>([(1,zI l),(5,zI (j:Int)),(0,va)])) (fun⟨j,l⟩ W=>AG Fa w W∧j≤a.length∧Be 5 (BR 46 da) 46 W.heap va (CJ k (a.take j)++a.drop j) Fa∧l=k+4*((Ex.sizes (a.take j):Nat):Int)) (fun⟨j,l⟩=>a.length-j) (0,k) ⟨rfl,rfl,rfl,trivial⟩ ⟨al,oM,(by rw[List.take_zero,List.drop_zero,FS,zl];assumption),(by rw[List.take_zero,Cc];omega)⟩ ?_
  clear al
  rintro⟨j,l⟩ ρ1 w1 ⟨aa,am,hsh,hlk⟩
  have ax:w.heap.size≤w1.heap.size:=aa.size
  refine A0<|L9 [0,0,0,0] Z<|Ag 2 Z<|AS (v:=va) Bw Z ha.isSl Aa ?_
  by_cases an:(j:Int)<(a.length:Int)
  ·
    refine AA true Z Z (A5 an) Aa<|Ai<|Ah Z<|A2<|A0<|A3<|L9 [0,0,0,0,0,4] Z ?_
    have hst:=Bp (l:=a) (k:=j) oM
    have hle:=Bq a (j+1)
    have hsk:=Bv<|a.getD j Ex.zero
    have ab:Be 5 (BR 46 da) 46 w1.heap va ((CJ k (a.take j))++(Ex.mk ((a.getD j Ex.zero).kind) ((a.getD j Ex.zero).num) ((a.getD j Ex.zero).pick) ((a.getD j Ex.zero).count) ((a.getD j Ex.zero).kids))::(a.drop (j+1))) Fa:=by have h9:=hsh;rw[Gg Ex.zero (show j<a.length by omega),JC (a.getD j Ex.zero)]at h9;exact h9
    have a0:(CJ k (a.take j)).length=j:=by rw[FT,List.length_take];omega
    refine Ag 3 Z<|AN (v:=va) j Bw B1 Z Z ha.isSl Z sD Aa ?_
    obtain⟨gb4,ob4,ac⟩:=ha.isPtr (k:=j) sD
    refine Ao (p:=AE va j 5) (b:=gb4) (o:=ob4) 0 BH Z ac Aa (Dm (v:=va) (k:=j) (c:=0) (L:=CJ k<|a.take j) (z:=Ex.mk ((a.getD j Ex.zero).kind) ((a.getD j Ex.zero).num) ((a.getD j Ex.zero).pick) ((a.getD j Ex.zero).count)<|(a.getD j Ex.zero).kids) (z':=(Ex.mk l ((a.getD j Ex.zero).num) ((a.getD j Ex.zero).pick) ((a.getD j Ex.zero).count)<|(a.getD j Ex.zero).kids)) (R:=a.drop (j+1)) (An 46 da) Ix Z Z ⟨rfl,rfl⟩ ab hna a0.symm (by decide) (fun h=>HU (by unfold BF;omega) h) Aa fun w5 ao b9 ay=>?_)
    have az:AG Fa w w5:=aa.trans ao
    have b0:w1.heap.size≤w5.heap.size:=ao.size
    refine Ai<|L9 [0,0,0] Z<|Ag 1 Z<|AQ (l+1) Z Z Dh Aa<|Ac 1 Z<|L9 [0,0,0,0,0,4] Z<|Ag 3 Z<|AN (v:=va) j Bw B1 Z Z ha.isSl Z sD Aa ?_
    obtain⟨gb6,ob6,ad⟩:=ha.isPtr (k:=j) sD
    refine Ao (p:=AE va j 5) (b:=gb6) (o:=ob6) 1 Bx Z ad Aa (Dm (v:=va) (k:=j) (c:=1) (L:=CJ k<|a.take j) (z:=Ex.mk l ((a.getD j Ex.zero).num) ((a.getD j Ex.zero).pick) ((a.getD j Ex.zero).count)<|(a.getD j Ex.zero).kids) (z':=(Ex.mk l (l+1) ((a.getD j Ex.zero).pick) ((a.getD j Ex.zero).count)<|(a.getD j Ex.zero).kids)) (R:=a.drop (j+1)) (An 46 da) Ix Z Z ⟨rfl,rfl⟩ ay hna a0.symm (by decide) (fun h=>HV (by unfold BF;omega) h) Aa fun w7 ap ba b1=>?_)
    have b2:AG Fa w w7:=az.trans ap
    have b3:w5.heap.size≤w7.heap.size:=ap.size
    refine Ai<|L9 [0,0,0] Z<|Ag 1 Z<|AQ (l+2) Z Z Dh Aa<|Ac 1 Z<|L9 [0,0,0,0,0,4] Z<|Ag 3 Z<|AN (v:=va) j Bw B1 Z Z ha.isSl Z sD Aa ?_
    obtain⟨gb8,ob8,ae⟩:=ha.isPtr (k:=j) sD
    refine Ao (p:=AE va j 5) (b:=gb8) (o:=ob8) 2 Cy Z ae Aa (Dm (v:=va) (k:=j) (c:=2) (L:=CJ k<|a.take j) (z:=Ex.mk l (l+1) ((a.getD j Ex.zero).pick) ((a.getD j Ex.zero).count)<|(a.getD j Ex.zero).kids) (z':=(Ex.mk l (l+1) (l+2) ((a.getD j Ex.zero).count)<|(a.getD j Ex.zero).kids)) (R:=a.drop (j+1)) (An 46 da) Ix Z Z ⟨rfl,rfl⟩ b1 hna a0.symm (by decide) (fun h=>HW (by unfold BF;omega) h) Aa fun w9 aq bb b4=>?_)
    have b5:AG Fa w w9:=b2.trans aq
    have b6:w7.heap.size≤w9.heap.size:=aq.size
    refine Ai<|L9 [0,0,0] Z<|Ag 1 Z<|AQ (l+3) Z Z Dh Aa<|Ac 1 Z<|L9 [0,0,0,0,0,4] Z<|Ag 3 Z<|AN (v:=va) j Bw B1 Z Z ha.isSl Z sD Aa ?_
    obtain⟨gb10,ob10,a5⟩:=ha.isPtr (k:=j) sD
    refine Ao (p:=AE va j 5) (b:=gb10) (o:=ob10) 3 C2 Z a5 Aa (Dm (v:=va) (k:=j) (c:=3) (L:=CJ k<|a.take j) (z:=Ex.mk l (l+1) (l+2) ((a.getD j Ex.zero).count)<|(a.getD j Ex.zero).kids) (z':=(Ex.mk l (l+1) (l+2) (l+3)<|(a.getD j Ex.zero).kids)) (R:=a.drop (j+1)) (An 46 da) Ix Z Z ⟨rfl,rfl⟩ b4 hna a0.symm (by decide) (fun h=>HX (by unfold BF;omega) h) Aa fun bd a6 b7 af=>?_)
    have ag:AG Fa w bd:=b5.trans a6
    have ar:w9.heap.size≤bd.heap.size:=a6.size
    refine Ai<|L9 [0,0,0] Z<|Ag 1 Z<|AQ (l+4) Z Z Dh Aa<|Ac 1 Z<|Ab _ [0,0,0,0,2,0,4,0] Z<|Ag 2 Z<|AN (v:=va) j Bw B1 Z Z ha.isSl Z sD Aa ?_
    obtain⟨gb12,ob12,a7⟩:=ha.isPtr (k:=j) sD
    refine Ao (p:=AE va j 5) (b:=gb12) (o:=ob12) 4 B5 Z a7 Aa ?_
    obtain⟨dk13,a1,G13,au,ah,a2,a8,a3,a9⟩:=Be.kidEO (L:=CJ k (a.take j)) (y:=Ex.mk l (l+1) (l+2) (l+3) ((a.getD j Ex.zero).kids)) (R:=a.drop (j+1)) af hna (k:=j) a0.symm
    replace a2:Be 5 (BR 46 dk13) 46 bd.heap a1 ((a.getD j Ex.zero).kids) G13:=a2
    refine Al (p:=Ar (AE va j 5) 4) (.inr Z) a1 AU Z ah Aa<|Ag 1 Z<|D9 130 [] [] [a1,zI (l+4)] Z Z J7 Aa (ih dk13 oM _  a1 ((a.getD j Ex.zero).kids) G13 (l+4) a2 a8 oM oM) ?_
    rintro bf be ⟨rfl,a4,ai⟩
    refine⟨_,rfl,?_⟩
    have av:bd.heap.size≤be.heap.size:=a4.size
    have aj:AG Fa w be:=ag.trans (a4.sub a3)
    have ak:Be 5 (BR 46 da) 46 be.heap va ((CJ k (a.take j))++(Ex.mk l (l+1) (l+2) (l+3) (CJ (l+4) ((a.getD j Ex.zero).kids)))::(a.drop (j+1))) Fa:=a9 _ _ a4 ai
    refine Ac 1 Z<|Ab _ [0,0,0] Z<|Ag 1 Z<|AQ ((j+1:Nat):Int) Z Z (Bn oM sD) Aa<|Ac 1 Z ?_
    have hshe:=ak
    exact⟨(j+1,l+4+4*((Ex.sizes ((a.getD j Ex.zero).kids):Nat):Int)),_,rfl,zR,⟨aj,oM,(by rw[HS k oM,E0,← hlk,List.append_assoc];exact hshe),oM⟩,zD⟩
  
   exact AA false Z Z (A6 an) Aa<|Ai<|Ak Z<|A4<|AD<|AD<|Ay<|L9 [0,0] Z<|Ac 2 Z<|A1<|Af [4] Z (zI l) Z ⟨(by first|rfl|(rw[hlk,CN oM])),aa,(by have h9:=hsh;rw[za (show a.length≤j by omega),List.drop_eq_nil_of_le (show a.length≤j by omega),List.append_nil]at h9;exact h9)⟩
theorem Eb (w:World)(da:Nat)(va:Value)(a:List Fn)(Fa:List Nat)(k:Int)(ha:Be 3 (CU 46 da) 49 w.heap va a Fa)(hna:Fa.Nodup)(_hk:BF k)(hk:0≤k∧k+((C8 a:Nat):Int)≤4000000000) :
    Calls Try.prog 90 #[va,zI k] w (fun e w'=>e=.returned (zI (k+((C8 a:Nat):Int)))∧AG Fa w w'∧Be 3 (CU 46 da) 49 w'.heap va (Db k a) Fa):=by
  refine Aw [va,zI k] 35 Try.func90 Z Z sM ?_
  have ah:AG Fa w w:=AG.refl Fa w
  have b1:=ha.lenle
  unfold maxLen at b1
  refine La Z<|A0<|La Z<|A3<|AW (S:=Nat×Int) (fun⟨j,l⟩=>([(1,zI l),(5,zI (j:Int)),(0,va)])) (fun⟨j,l⟩ W=>AG Fa w W∧j≤a.length∧Be 3 (CU 46 da) 49 W.heap va (Db k (a.take j)++a.drop j) Fa∧l=k+((C8 (a.take j):Nat):Int)) (fun⟨j,l⟩=>a.length-j) (0,k) ⟨rfl,rfl,rfl,trivial⟩ ⟨ah,oM,(by rw[List.take_zero,List.drop_zero];assumption),(by rw[List.take_zero];show k=k+((0:Nat):Int);omega)⟩ ?_
  clear ah
  rintro⟨j,l⟩ ρ1 w1 ⟨a9,ai,hsh,hlk⟩
  have an:w.heap.size≤w1.heap.size:=a9.size
  refine A0<|L9 [0,0,0,0] Z<|Ag 2 Z<|AS (v:=va) C1 Z ha.isSl Aa ?_
  by_cases aj:(j:Int)<(a.length:Int)
  ·
    refine AA true Z Z (A5 aj) Aa<|Ai<|Ah Z<|A2<|A0<|A3<|L9 [0,0,0,3,0,0,4] Z ?_
    have hst:=EL (l:=a) (j:=j) oM
    have hle:=EM a (j+1)
    have aa:Be 3 (CU 46 da) 49 w1.heap va ((Db k (a.take j))++(⟨(a.getD j Fn.zero).name,(a.getD j Fn.zero).params,(a.getD j Fn.zero).outs⟩:Fn)::(a.drop (j+1))) Fa:=by have h9:=hsh;rw[Gg Fn.zero (show j<a.length by omega)]at h9;exact h9
    have a1:(Db k (a.take j)).length=j:=by rw[FU,List.length_take];omega
    refine Ag 3 Z<|As 129 [] [] [zI l] Z Z J6 Aa (D3 _ (l) oM oM) ?_
    rintro e4 w4 ⟨_,rfl,a8,rfl⟩
    refine⟨_,rfl,a8,?_⟩
    have ao:w1.heap.size≤w4.heap.size:=a8.size
    have ap:AG Fa w w4:=a9.ext a8
    have aq:=GL (Ad<|Aj 46 da) aa a8
    refine AN (v:=va) j C1 B4 Z Z ha.isSl Z sD Aa ?_
    obtain⟨gb6,ob6,ab⟩:=ha.isPtr (k:=j) sD
    refine Ao (p:=AE va j 3) (b:=gb6) (o:=ob6) 0 BS Z ab Aa (Dm (v:=va) (k:=j) (c:=0) (L:=Db k<|a.take j) (z:=(⟨(a.getD j Fn.zero).name,(a.getD j Fn.zero).params,(a.getD j Fn.zero).outs⟩:Fn)) (z':=(⟨HR<|l,(a.getD j Fn.zero).params,(a.getD j Fn.zero).outs⟩:Fn)) (R:=a.drop (j+1)) (Aj 46 da) Le Z Z ⟨rfl,rfl⟩ aq hna a1.symm (by decide) (fun h=>HY h) Aa fun w7 ak az ar=>?_)
    have au:AG Fa w w7:=ap.trans ak
    have av:w4.heap.size≤w7.heap.size:=ak.size
    refine Ai<|L9 [0,0,0] Z<|Ag 1 Z<|AQ (l+1) Z Z (by first|exact Dy oM oM|(rw[Dy oM oM];omega)) Aa<|Ac 1 Z<|L9 [0,0,0,0,0,4] Z<|Ag 3 Z<|AN (v:=va) j C1 B4 Z Z ha.isSl Z sD Aa ?_
    obtain⟨gb8,ob8,ac⟩:=ha.isPtr (k:=j) sD
    refine Ao (p:=AE va j 3) (b:=gb8) (o:=ob8) 1 Bh Z ac Aa (Dm (v:=va) (k:=j) (c:=1) (L:=Db k<|a.take j) (z:=(⟨HR<|l,(a.getD j Fn.zero).params,(a.getD j Fn.zero).outs⟩:Fn)) (z':=(⟨HR<|l,l+1,(a.getD j Fn.zero).outs⟩:Fn)) (R:=a.drop (j+1)) (Aj 46 da) Ix Z Z ⟨rfl,rfl⟩ ar hna a1.symm (by decide) (fun h=>HZ (by unfold BF;omega) h) Aa fun w9 al b0 aw=>?_)
    have ax:AG Fa w w9:=au.trans al
    have ay:w7.heap.size≤w9.heap.size:=al.size
    refine Ai<|L9 [0,0,0] Z<|Ag 1 Z<|AQ (l+2) Z Z (by first|exact Dy oM oM|(rw[Dy oM oM];omega)) Aa<|Ac 1 Z<|Ab _ [0,0,0,0,2,0,4,0] Z<|Ag 2 Z<|AN (v:=va) j C1 B4 Z Z ha.isSl Z sD Aa ?_
    obtain⟨gb10,ob10,a5⟩:=ha.isPtr (k:=j) sD
    refine Ao (p:=AE va j 3) (b:=gb10) (o:=ob10) 2 B2 Z a5 Aa ?_
    obtain⟨a0,G11,ad,a2,a6,a3,a7⟩:=Be.kidFO (L:=Db k (a.take j)) (y:=(⟨HR (l),l+1,(a.getD j Fn.zero).outs⟩:Fn)) (R:=a.drop (j+1)) aw hna (k:=j) a1.symm
    replace a2:Be 5 (BR 46 da) 46 w9.heap a0 ((a.getD j Fn.zero).outs) G11:=a2
    refine Al (p:=Ar (AE va j 3) 2) (.inr Z) a0 AU Z ad Aa<|Ag 1 Z<|D9 130 [] [] [a0,zI (l+2)] Z Z J7 Aa (Ea _ da a0 ((a.getD j Fn.zero).outs) G11 (l+2) a2 a6 oM oM) ?_
    rintro b3 b2 ⟨rfl,a4,ae⟩
    refine⟨_,rfl,?_⟩
    have am:w9.heap.size≤b2.heap.size:=a4.size
    have af:AG Fa w b2:=ax.trans (a4.sub a3)
    have ag:Be 3 (CU 46 da) 49 b2.heap va ((Db k (a.take j))++(⟨HR (l),l+1,CJ (l+2) ((a.getD j Fn.zero).outs)⟩:Fn)::(a.drop (j+1))) Fa:=a7 _ _ a4 ae
    refine Ac 1 Z<|Ab _ [0,0,0] Z<|Ag 1 Z<|AQ ((j+1:Nat):Int) Z Z (Bn oM sD) Aa<|Ac 1 Z ?_
    have hshe:=ag
    exact⟨(j+1,l+2+4*((Ex.sizes ((a.getD j Fn.zero).outs):Nat):Int)),_,rfl,zR,⟨af,oM,(by rw[HT k oM,← hlk,List.append_assoc];exact hshe),oM⟩,zD⟩
  
   exact AA false Z Z (A6 aj) Aa<|Ai<|Ak Z<|A4<|AD<|AD<|Ay<|L9 [0,0] Z<|Ac 2 Z<|A1<|Af [4] Z (zI l) Z ⟨(by first|rfl|(rw[hlk,za (show a.length≤j by omega)])),a9,(by have h9:=hsh;rw[za (show a.length≤j by omega),List.drop_eq_nil_of_le (show a.length≤j by omega),List.append_nil]at h9;exact h9)⟩
theorem CC (w:World)(da:Nat)(va:Value)(a:List Fn)(Fa:List Nat)(k:Int)(ha:Be 3 (CU 46 da) 49 w.heap va a Fa)(hna:Fa.Nodup)(_hk:BF k)(hk:0≤k∧k+((C8 a:Nat):Int)≤4000000000) :
    Calls Try.prog 35 #[(.agg #[va]),zI k] w (fun e w'=>e=.returned (zI (k+((C8 a:Nat):Int)))∧AG Fa w w'∧Be 3 (CU 46 da) 49 w'.heap va (Db k a) Fa):=by
  refine Aw [.agg #[va],zI k] 10 Try.func35 Z Z sM ?_
  have a3:AG Fa w w:=AG.refl Fa w
  refine L9 [3,0] Z (Bf (cs:=#[va]) Z Aa fun w1 a0 aa a1=>?_)
  have a4:w.heap.size≤w1.heap.size:=a0.size
  have a5:AG Fa w w1:=a3.ext a0
  have a6:=GL (Ad<|Aj 46 da) ha a0
  replace a1:BX w1.heap w.heap.size [va]:=a1
  refine Ac 1 Z<|L9 [0,2,0,4,0] Z<|Ao (p:=zP w.heap.size) 0 AO Z Z Aa<|Al (p:=Ar (zP w.heap.size) 0) (.inr Z) va B7 Z (a1.ldp (i:=0) sM) Aa<|Ag 1 Z<|D9 90 [] [] [va,zI k] Z Z KW Aa (Eb _ da va a Fa (k) a6 hna _hk oM) ?_
  rintro e3 w3 ⟨rfl,a2,a7⟩
  refine⟨_,rfl,?_⟩
  have a8:w1.heap.size≤w3.heap.size:=a2.size
  have a9:AG Fa w w3:=a5.trans a2
  exact Ac 1 Z<|L9 [0,0] Z<|Ac 2 Z<|A1<|Af [4] Z (zI (k+((C8 a:Nat):Int))) Z ⟨(by rfl),a9,a7⟩
theorem Ec {p:Prop}(h:p:=by first|(have hsa:=CN (l:=b) (k:=j) oM;exact AK oM)|(exfalso;omega)|(exfalso;simp_all;done)):p:=h
theorem Ed (w:World)(db:Nat)(vb:Value)(b:List Ex)(k:Int)(hb:RN [] (Ct 5 (DL db)) w.heap vb b)(_hk:BF k)(af:∃a,b=CJ k a)(hk:0≤k∧k+4*((Ex.sizes b:Nat):Int)≤4000000000) :
    Calls Try.prog 131 #[vb,zI k] w (fun e w'=>e=.returned (zI (k+4*((Ex.sizes b:Nat):Int)))∧Az w w'):=by
  induction db using Nat.strongRecOn generalizing w vb b k
  rename_i db ih
  refine Aw [vb,zI k] 58 Try.func131 Z Z sM ?_
  have a5:Az w w:=Az.refl w
  have aq:=hb.lenle
  unfold maxLen at aq
  obtain⟨a,hba⟩:=af
  have ag:=BW b 0
  have hbl:b.length=a.length:=by rw[hba,FT]
  refine La Z<|A0<|La Z<|A3<|AW (S:=Nat×Int) (fun⟨j,l⟩=>([(1,zI l),(5,zI (j:Int)),(0,vb)])) (fun⟨j,l⟩ W=>Az w W∧j≤b.length∧l=k+4*((Ex.sizes (b.take j):Nat):Int)) (fun⟨j,l⟩=>b.length-j) (0,k) ⟨rfl,rfl,rfl,trivial⟩ ⟨a5,oM,(by rw[List.take_zero,Cc];omega)⟩ ?_
  clear a5
  rintro⟨j,l⟩ ρ1 w1 ⟨a0,a6,hlk⟩
  have ah:w.heap.size≤w1.heap.size:=a0.size
  refine A0<|L9 [0,0,0,0] Z<|Ag 2 Z<|AS (v:=vb) Bw Z hb.isSl Aa ?_
  by_cases a7:(j:Int)<(b.length:Int)
  ·
    refine AA true Z Z (A5 a7) Aa<|Ai<|Ah Z<|A2<|A0<|A3<|A0<|L9 [0,0,0,0,2,0,0] Z ?_
    have hst:=Bp (l:=b) (k:=j) oM
    have hle:=Bq b (j+1)
    have hsk:=Bv<|b.getD j Ex.zero
    have hbt:Ex.sizes (b.take j)=Ex.sizes (a.take j):=by rw[hba];exact GX k a j
    have hbj:b.getD j Ex.zero=IE l (a.getD j Ex.zero):=by rw[hlk,hbt,hba];exact GW k oM
    have al:(b.getD j Ex.zero).kind=l:=by rw[hbj,E0];rfl
    have am:(b.getD j Ex.zero).num=l+1:=by rw[hbj,E0];rfl
    have an:(b.getD j Ex.zero).pick=l+2:=by rw[hbj,E0];rfl
    have ao:(b.getD j Ex.zero).count=l+3:=by rw[hbj,E0];rfl
    have ai:(b.getD j Ex.zero).kids=CJ (l+4) (a.getD j Ex.zero).kids:=by rw[hbj,E0];rfl
    refine Ag 2 Z<|AN (v:=vb) j Bw B1 Z Z hb.isSl Z sD Aa ?_
    obtain⟨cs3,aj,a1⟩:=hb.get (AB db) Ex.zero (k:=j) sD
    obtain⟨dd3,a2,ap,rfl,a8⟩:=RX.of aj
    have a3:=a8.rn.lenle
    unfold maxLen at a3
    refine Av (p:=AE vb j 5) 0 BH Z (a1 _<|AG.of_ext [] a0) Aa<|Al (p:=Ar (AE vb j 5) 0) (.inr Z) (zI<|(b.getD j Ex.zero).kind) AT Z ((a1 _<|AG.of_ext [] a0).ld (i:=0) (by simp[Ch,Ci])) Aa<|Ag 1 Z ?_
    by_cases a9:(b.getD j Ex.zero).kind≠l
    ·
      exact AR true Z Z (A5 a9) Aa<|Ai<|Ah Z<|La Z<|A1<|Am<|AC<|Am<|Am<|AC<|Am<|Af [4] Z (zI (-1)) Z ⟨Ec,a0⟩
    
     refine AR false Z Z (A6 a9) Aa<|Ai<|Ak Z<|A2<|L9 [0,0,0] Z<|Ag 1 Z<|AQ (l+1) Z Z Dh Aa<|Ac 1 Z<|A0<|L9 [0,0,0,0,2,0,0] Z<|Ag 2 Z<|AN (v:=vb) j Bw B1 Z Z hb.isSl Z sD Aa ?_
     refine Av (p:=AE vb j 5) 1 Bx Z (a1 _<|AG.of_ext [] a0) Aa<|Al (p:=Ar (AE vb j 5) 1) (.inr Z) (zI<|(b.getD j Ex.zero).num) AT Z ((a1 _<|AG.of_ext [] a0).ld (i:=1) (by simp[Ch,Ci])) Aa<|Ag 1 Z ?_
     by_cases aa:(b.getD j Ex.zero).num≠l+1
     ·
       exact AR true Z Z (A5 aa) Aa<|Ai<|Ah Z<|La Z<|A1<|Am<|AC<|Am<|Am<|AC<|Am<|Af [4] Z (zI (-1)) Z ⟨Ec,a0⟩
     
      refine AR false Z Z (A6 aa) Aa<|Ai<|Ak Z<|A2<|L9 [0,0,0] Z<|Ag 1 Z<|AQ (l+2) Z Z Dh Aa<|Ac 1 Z<|A0<|L9 [0,0,0,0,2,0,0] Z<|Ag 2 Z<|AN (v:=vb) j Bw B1 Z Z hb.isSl Z sD Aa ?_
      refine Av (p:=AE vb j 5) 2 Cy Z (a1 _<|AG.of_ext [] a0) Aa<|Al (p:=Ar (AE vb j 5) 2) (.inr Z) (zI<|(b.getD j Ex.zero).pick) AT Z ((a1 _<|AG.of_ext [] a0).ld (i:=2) (by simp[Ch,Ci])) Aa<|Ag 1 Z ?_
      by_cases ab:(b.getD j Ex.zero).pick≠l+2
      ·
        exact AR true Z Z (A5 ab) Aa<|Ai<|Ah Z<|La Z<|A1<|Am<|AC<|Am<|Am<|AC<|Am<|Af [4] Z (zI (-1)) Z ⟨Ec,a0⟩
      
       refine AR false Z Z (A6 ab) Aa<|Ai<|Ak Z<|A2<|L9 [0,0,0] Z<|Ag 1 Z<|AQ (l+3) Z Z Dh Aa<|Ac 1 Z<|A0<|L9 [0,0,0,0,2,0,0] Z<|Ag 2 Z<|AN (v:=vb) j Bw B1 Z Z hb.isSl Z sD Aa ?_
       refine Av (p:=AE vb j 5) 3 C2 Z (a1 _<|AG.of_ext [] a0) Aa<|Al (p:=Ar (AE vb j 5) 3) (.inr Z) (zI<|(b.getD j Ex.zero).count) AT Z ((a1 _<|AG.of_ext [] a0).ld (i:=3) (by simp[Ch,Ci])) Aa<|Ag 1 Z ?_
       by_cases ac:(b.getD j Ex.zero).count≠l+3
       ·
         exact AR true Z Z (A5 ac) Aa<|Ai<|Ah Z<|La Z<|A1<|Am<|AC<|Am<|Am<|AC<|Am<|Af [4] Z (zI (-1)) Z ⟨Ec,a0⟩
       
        refine AR false Z Z (A6 ac) Aa<|Ai<|Ak Z<|A2<|L9 [0,0,0] Z<|Ag 1 Z<|AQ (l+4) Z Z Dh Aa<|Ac 1 Z<|L9 [0,0,0,0,2,0,3,0] Z<|Ag 2 Z<|AN (v:=vb) j Bw B1 Z Z hb.isSl Z sD Aa ?_
        refine Av (p:=AE vb j 5) 4 B5 Z (a1 _<|AG.of_ext [] a0) Aa<|Al (p:=Ar (AE vb j 5) 4) (.inr Z) a2 AU Z ((a1 _<|AG.of_ext [] a0).ld (i:=4) (by simp[Ch,Ci])) Aa<|Ag 1 Z<|As 131 [] [] [a2,zI (l+4)] Z Z J8 Aa (ih dd3 oM _ a2 ((b.getD j Ex.zero).kids) (l+4) (a8.rn.ext (Ax<|AB dd3) a0) oM (by exact⟨_,ai⟩) oM) ?_
        rintro e8 w8 ⟨rfl,a4⟩
        refine⟨_,rfl,a4,?_⟩
        have ak:=a4.size
        have ad:=a0.trans a4
        refine Ac 1 Z<|L9 [0,0] Z<|Ag 1 Z ?_
        by_cases ae:l+4+4*((Ex.sizes ((b.getD j Ex.zero).kids):Nat):Int)<((0:Nat):Int)
        ·
          exact AA true Z Z (A5 ae) Aa<|Ai<|Ah Z<|La Z<|A1<|AC<|Am<|Am<|AC<|Am<|Af [4] Z (zI (-1)) Z ⟨Ec,ad⟩
        
         exact AA false Z Z (A6 ae) Aa<|Ai<|Ak Z<|A2<|Ab _ [0,0,0] Z<|Ag 1 Z<|AQ ((j+1:Nat):Int) Z Z (Bn oM sD) Aa<|Ac 1 Z ⟨(j+1,l+4+4*((Ex.sizes ((b.getD j Ex.zero).kids):Nat):Int)),_,rfl,zR,⟨ad,oM,oM⟩,zD⟩
  
   exact AA false Z Z (A6 a7) Aa<|Ai<|Ak Z<|A4<|AD<|AD<|Ay<|L9 [0,0] Z<|Ac 2 Z<|A1<|Af [4] Z (zI l) Z ⟨Ec,a0⟩
theorem GD (s:ByteArray):BM s s=true:=by unfold BM;simp
theorem Hi {p:Prop}(h:p:=by first|(rw[hlk,za (show b.length≤j by omega)];done)|(exfalso;omega)|(exfalso;simp_all;done)):p:=h
theorem Ee (w:World)(db:Nat)(vb:Value)(b:List Fn)(k:Int)(hb:RP [] db w.heap vb b)(_hk:BF k)(af:∃a,b=Db k a)(hk:0≤k∧k+((C8 b:Nat):Int)≤4000000000) :
    Calls Try.prog 91 #[vb,zI k] w (fun e w'=>e=.returned (zI (k+((C8 b:Nat):Int)))∧Az w w'):=by
  refine Aw [vb,zI k] 41 Try.func91 Z Z sM ?_
  have a7:Az w w:=Az.refl w
  have an:=hb.lenle
  unfold maxLen at an
  obtain⟨a,hba⟩:=af
  have hbl:b.length=a.length:=by rw[hba,FU]
  refine La Z<|A0<|La Z<|A3<|AW (S:=Nat×Int) (fun⟨j,l⟩=>([(1,zI l),(5,zI (j:Int)),(0,vb)])) (fun⟨j,l⟩ W=>Az w W∧j≤b.length∧l=k+((C8 (b.take j):Nat):Int)) (fun⟨j,l⟩=>b.length-j) (0,k) ⟨rfl,rfl,rfl,trivial⟩ ⟨a7,oM,(by rw[List.take_zero];show k=k+((0:Nat):Int);omega)⟩ ?_
  clear a7
  rintro⟨j,l⟩ ρ1 w1 ⟨a2,a8,hlk⟩
  have ag:w.heap.size≤w1.heap.size:=a2.size
  refine A0<|L9 [0,0,0,0] Z<|Ag 2 Z<|AS (v:=vb) C1 Z hb.isSl Aa ?_
  by_cases a9:(j:Int)<(b.length:Int)
  ·
    refine AA true Z Z (A5 a9) Aa<|Ai<|Ah Z<|A2<|A0<|A3<|A0<|A0<|Bd _ [0,0,0,0,1,0,3,0] mixed (by kernel_rfl) ?_
    have hst:=EL (l:=b) (j:=j) oM
    have hle:=EM b (j+1)
    have hbt:C8 (b.take j)=C8 (a.take j):=by rw[hba];exact H0 k a j
    have hbj:b.getD j Fn.zero=JS l (a.getD j Fn.zero):=by rw[hlk,hbt,hba];exact GZ k oM
    have al:BM (b.getD j Fn.zero).name (HR l)=true:=by rw[hbj];exact GD _
    have am:(b.getD j Fn.zero).params=l+1:=by rw[hbj];rfl
    have ah:(b.getD j Fn.zero).outs=CJ (l+2) (a.getD j Fn.zero).outs:=by rw[hbj];rfl
    refine Ag 2 Z<|AN (v:=vb) j C1 B4 Z Z hb.isSl Z sD Aa ?_
    obtain⟨cs3,ai,a1⟩:=hb.get (Aq db) Fn.zero (k:=j) sD
    obtain⟨a4,rfl,aa⟩:=RF.of ai
    have a5:=aa.rn.lenle
    unfold maxLen at a5
    refine Av (p:=AE vb j 3) 0 BS Z (a1 _<|AG.of_ext [] a2.drew) Aa<|Al (p:=Ar (AE vb j 3) 0) (.inl Z) (.string<|(b.getD j Fn.zero).name) Dq Z ((a1 _<|AG.of_ext [] a2.drew).ld (i:=0) (by simp[Ch,Ci])) Aa<|Ag 1 Z<|As 129 [] [] [zI l] Z Z J6 Aa (D3 _ (l) oM oM) ?_
    rintro e4 w4 ⟨_,rfl,a3,rfl⟩
    refine⟨_,rfl,a3,?_⟩
    replace a3:=a3.of_drew
    have aj:=a3.size
    have a0:=a2.trans a3
    cases ab:(!BM ((b.getD j Fn.zero).name) (HR (l)))
    ·
      refine FO false u9 Z Z ab Aa<|Ai<|Ak Z<|A2<|L9 [0,0,0] Z<|Ag 1 Z<|AQ (l+1) Z Z (by first|exact Dy oM oM|(rw[Dy oM oM];omega)) Aa<|Ac 1 Z<|A0<|L9 [0,0,0,0,2,0,0] Z<|Ag 2 Z<|AN (v:=vb) j C1 B4 Z Z hb.isSl Z sD Aa ?_
      refine Av (p:=AE vb j 3) 1 Bh Z (a1 _<|AG.of_ext [] a0) Aa<|Al (p:=Ar (AE vb j 3) 1) (.inr Z) (zI<|(b.getD j Fn.zero).params) AT Z ((a1 _<|AG.of_ext [] a0).ld (i:=1) (by simp[Ch,Ci])) Aa<|Ag 1 Z ?_
      by_cases ac:(b.getD j Fn.zero).params≠l+1
      ·
        exact AR true Z Z (A5 ac) Aa<|Ai<|Ah Z<|La Z<|A1<|Am<|AC<|Am<|Am<|AC<|Am<|Af [4] Z (zI (-1)) Z ⟨Hi,a0⟩
      
       refine AR false Z Z (A6 ac) Aa<|Ai<|Ak Z<|A2<|L9 [0,0,0] Z<|Ag 1 Z<|AQ (l+2) Z Z (by first|exact Dy oM oM|(rw[Dy oM oM];omega)) Aa<|Ac 1 Z<|L9 [0,0,0,0,2,0,3,0] Z<|Ag 2 Z<|AN (v:=vb) j C1 B4 Z Z hb.isSl Z sD Aa ?_
       refine Av (p:=AE vb j 3) 2 B2 Z (a1 _<|AG.of_ext [] a0) Aa<|Al (p:=Ar (AE vb j 3) 2) (.inr Z) a4 AU Z ((a1 _<|AG.of_ext [] a0).ld (i:=2) (by simp[Ch,Ci])) Aa<|Ag 1 Z<|As 131 [] [] [a4,zI (l+2)] Z Z J8 Aa (Ed _ db a4 ((b.getD j Fn.zero).outs) (l+2) (aa.rn.ext (Ax<|AB db) a0) oM (by exact⟨_,ah⟩) oM) ?_
       rintro e7 w7 ⟨rfl,a6⟩
       refine⟨_,rfl,a6,?_⟩
       have ak:=a6.size
       have ad:=a0.trans a6
       refine Ac 1 Z<|L9 [0,0] Z<|Ag 1 Z ?_
       by_cases ae:l+2+4*((Ex.sizes ((b.getD j Fn.zero).outs):Nat):Int)<((0:Nat):Int)
       ·
         exact AA true Z Z (A5 ae) Aa<|Ai<|Ah Z<|La Z<|A1<|AC<|Am<|Am<|AC<|Am<|Af [4] Z (zI (-1)) Z ⟨Hi,ad⟩
       
        exact AA false Z Z (A6 ae) Aa<|Ai<|Ak Z<|A2<|Ab _ [0,0,0] Z<|Ag 1 Z<|AQ ((j+1:Nat):Int) Z Z (Bn oM sD) Aa<|Ac 1 Z ⟨(j+1,l+2+4*((Ex.sizes ((b.getD j Fn.zero).outs):Nat):Int)),_,rfl,zR,⟨ad,oM,oM⟩,zD⟩
    
     exact FO true u9 Z Z ab Aa<|Ai<|Ah Z<|La Z<|A1<|Am<|AC<|Am<|Am<|AC<|Am<|Af [4] Z (zI (-1)) Z ⟨Hi,a0⟩
  
   exact AA false Z Z (A6 a9) Aa<|Ai<|Ak Z<|A4<|AD<|AD<|Ay<|L9 [0,0] Z<|Ac 2 Z<|A1<|Af [4] Z (zI l) Z ⟨Hi,a2⟩
theorem CD (w:World)(db:Nat)(vp:Value)(b:List Fn)(k:Int)(hb:RP [] db w.heap vp b)(_hk:BF k)(a6:∃a,b=Db k a)(hk:0≤k∧k+((C8 b:Nat):Int)≤4000000000) :
    Calls Try.prog 36 #[(.agg #[vp]),zI k] w (fun e w'=>e=.returned (zI (k+((C8 b:Nat):Int)))∧Az w w'):=by
  refine Aw [.agg #[vp],zI k] 12 Try.func36 Z Z sM ?_
  have a7:Az w w:=Az.refl w
  have ab:=hb.lenle
  unfold maxLen at ab
  refine L9 [3,0] Z (Bf (cs:=#[vp]) Z Aa fun w1 a2 aa a0=>?_)
  have a8:=a2.size
  have a3:=a7.trans a2
  replace a0:BX w1.heap w.heap.size [vp]:=a0
  refine Ac 1 Z<|L9 [0,2,0,3,0] Z<|Ao (p:=zP w.heap.size) 0 AO Z Z Aa<|Al (p:=Ar (zP w.heap.size) 0) (.inr Z) vp B7 Z (a0.ldp (i:=0) sM) Aa<|Ag 1 Z<|As 91 [] [] [vp,zI k] Z Z KX Aa (Ee _ db vp (b) (k) (hb.ext (Ax<|Aq db) a3) _hk a6 oM) ?_
  rintro e2 w2 ⟨rfl,a1⟩
  refine⟨_,rfl,a1,?_⟩
  have a9:=a1.size
  have a4:=a3.trans a1
  refine Ac 1 Z<|A0<|L9 [0,0] Z<|Ag 1 Z ?_
  by_cases a5:k+((C8 b:Nat):Int)<((0:Nat):Int)
  ·
    exact AA true Z Z (A5 a5) Aa<|Ai<|Ah Z<|La Z<|A1<|Am<|Af [4] Z (zI (-1)) Z ⟨(by first|rfl|exact AK Z|(exfalso;omega)),a4⟩
  
   exact AA false Z Z (A6 a5) Aa<|Ai<|Ak Z<|A2<|L9 [0,0] Z<|Ac 2 Z<|A1<|Af [4] Z (zI (k+((C8 b:Nat):Int))) Z ⟨(by first|rfl|exact AK Z|(exfalso;omega)),a4⟩
theorem RP.up2 {d:Nat}{H:Array Obj}{v:Value}{p:List Fn}(h:RP [] d H v p):RP [] (d+2) H v p:=by
  obtain⟨F,h,hb⟩:=h
  exact⟨F,h.imp (fun⟨v,a1,a2,a3⟩=>⟨v,a1,a2,a3.imp fun h=>EO (EO h)⟩),hb⟩
theorem It {l:List Fn}(h:G0 l):∀j,j≤l.length→C8 (l.take j)≤j*8000002
  |0,_=>by rw[List.take_zero];exact Nat.zero_le _
  |j+1,hj=>by
    have ih:=It h j zO
    have:=h j zO
    rw[EL (by omega)];omega
theorem IX {l:List Fn}(h:G0 l):C8 l≤l.length*8000002:=by
  have:=It h l.length (A7 _)
  rwa [List.take_length]at this
theorem KC {p:List Fn}{f n:Int}(hz:G0 p):C8 (EW p f n)≤400000000:=by
  by_cases h:CH p f n=0
  · have hwl:=Kp h
    have hq0:=Hc hwl.1
    have hq1:=Dk.1 hq0.2.1
    have hvp:=Eq hq0.1
    have hs:=hz.lp (n:=n) hvp (f:=f) zO
    have hl:=Er hwl.2.2
    rw[Ha h]
    have:=IX hs
    omega
  · rw[Jf h];exact Nat.zero_le _
theorem GE {p:Prop}(h:p:=by first|rfl|(exfalso;omega)|simp_all):p:=h
theorem CT (w:World)(dp:Nat)(vp:Value)(p:List Fn)(f:Int)(n:Int)(hp:RP [] dp w.heap vp p)(_hf:BF f)(_hn:BF n)(hnm:∀k,k<p.length→(p.getD k Fn.zero).name.size≤9223372036854775807) :
    Calls Try.prog 6 #[(.agg #[vp]),zI f,zI n] w (fun e w'=>e=.returned (.bool true)∧Az w w'):=by
  refine Aw [.agg #[vp],zI f,zI n] 106 Try.func6 Z Z sM ?_
  have jg:Az w w:=Az.refl w
  have c0:=hp.lenle
  unfold maxLen at c0
  refine L9 [3,0] Z ?_
  have dx:=RP.up2 hp
  refine Bf (cs:=#[vp]) Z Aa fun w1 io k8 ez=>?_
  have jh:=io.size
  have ip:=jg.trans io
  replace ez:BX w1.heap w.heap.size [vp]:=ez
  refine Ac 1 Z<|La Z<|L9 [2,0,3,0] Z<|Au (p:=zP w.heap.size) (.inr Z) [vp] Gj Z (fun be a0=>LD.of_box<|BX.ext (w:=w1) ez a0) Z Aa<|Ag 1 Z<|As 30 [] [] [.agg #[vp],zI ((1048576:Nat):Int)] Z Z KN Aa (E3 _ (dp+2) vp (p) _ (dx.ext (Ax<|Aq (dp+2)) ip) oM oM hnm) ?_
  rintro e2 w2 ⟨rfl,g0⟩
  refine⟨_,rfl,g0,?_⟩
  have ji:=g0.size
  have gc:=ip.trans g0
  have dk:=ez.ext g0
  refine Ac 1 Z<|A0<|L9 [0,0] Z<|Ag 1 Z ?_
  by_cases iq:DN (Gm p) ((1048576:Nat):Int)<((0:Nat):Int)
  ·
    exact AA true Z Z (A5 iq) Aa<|Ai<|Ah Z<|La Z<|A1<|Am<|Af [6] Z (.bool true) Z ⟨GE,gc⟩
  
   refine AA false Z Z (A6 iq) Aa<|Ai<|Ak Z<|A2<|L9 [2,3,0,0,3,0,0,0,3,4,0] Z ?_
   have hzv:=Es (t:=Gm p) (x:=((1048576:Nat):Int)) oM
   have jj:Gm p≤1048576:=by omega
   have hz:=Jz jj
   have hmk:=IF p
   have hml:=KC (f:=f) (n:=n) hz
   refine Au (p:=zP w.heap.size) (.inr Z) [vp] Gj Z (fun be a0=>LD.of_box<|BX.ext (w:=w2) dk a0) Z Aa<|As 32 [] [] [.agg #[vp]] Z Z II Aa (BQ _ (dp+2) vp (p) (dx.ext (Ax<|Aq (dp+2)) gc) oM) ?_
   rintro e4 w4 ⟨v4,rfl,g1,ir⟩
   refine⟨_,rfl,g1,?_⟩
   have jk:=g1.size
   have jl:=gc.trans g1
   have dy:=dk.ext g1
   refine Ag 2 Z<|As 31 [] [] [.agg #[v4],zI f,zI n] Z Z KO Aa (En _ (dp+2) v4 (p) (f) (n) (RN.of_frF ir fun b hb=>by cases hb) _hf _hn hz oM) ?_
   rintro e5 w5 ⟨v5,rfl,dz,jm⟩
   refine⟨_,rfl,dz,?_⟩
   have jn:=dz.size
   have jo:=jl.trans dz
   have dl:=dy.ext dz
   have jp:=FX (p:=p) (f:=f) (n:=n)
   refine Ag 1 Z<|Cu (vs:=[.agg #[v5],zI<|CH p f n]) (.agg #[v5]) Z Z Aa<|Cu (vs:=[.agg #[v5],zI<|CH p f n]) (zI<|CH p f n) Z Z Aa ?_
   have k9:=dl.lt
   refine AI (z:=.agg #[zN]) DD Aa fun w6 e1 ka gd=>?_
   have jq:=e1.size
   have is:=jo.trans e1
   have e3:=dl.ext e1
   have dm:=jm.ext (Ad<|Aj 46 (dp+2)) e1
   replace gd:BX w6.heap w5.heap.size [zN]:=gd
   refine AP (vs:=[v5]) AL Z Z (by intro u hu;simp only[ze,z2,or_false]at hu;rcases hu with rfl <;> first|exact⟨rfl,rfl⟩|exact AM dm.isSlS) gd Z Z Aa fun w8 e7 kb ge=>?_
   replace ge:BX w8.heap w5.heap.size [v5]:=ge
   have it:Az w w8:=e7.below is (fun _ h=>zE h) is.size
   have jr:w6.heap.size≤w8.heap.size:=e7.size
   have iu:=e3.chg e7 (zB ·)
   have gg:=dm.chg (Ad<|Aj 46 (dp+2)) e7 fun c hc=>zH<|A9 hc
   refine Ac 1 Z<|L9 [2,3,3,4] Z<|Au (p:=zP w.heap.size) (.inr Z) [vp] Gj Z (fun be a0=>LD.of_box<|BX.ext (w:=w8) iu a0) Z Aa<|As 32 [] [] [.agg #[vp]] Z Z II Aa (BQ _ (dp+2) vp (p) (dx.ext (Ax<|Aq (dp+2)) it) oM) ?_
   rintro df c7 ⟨bh,rfl,aj,gh⟩
   refine⟨_,rfl,aj,?_⟩
   have iv:=aj.size
   have gi:=it.trans aj
   have b6:=iu.ext aj
   have bd:=gg.ext (Ad<|Aj 46 (dp+2)) aj
   have b7:=ge.ext aj
   have js:=b6.lt
   have jt:=b7.lt
   refine AI (z:=.agg #[zN]) DD Aa fun d0 ak ju dq=>?_
   have iw:=ak.size
   have e8:=gi.trans ak
   have dr:=b6.ext ak
   have bf:=bd.ext (Ad<|Aj 46 (dp+2)) ak
   have ds:=b7.ext ak
   have am:=gh.ext (Ad<|Aj 46 (dp+2)) ak
   replace dq:BX d0.heap c7.heap.size [zN]:=dq
   refine AP (vs:=[bh]) AL Z Z (by intro u hu;simp only[ze,z2,or_false]at hu;rcases hu with rfl <;> first|exact⟨rfl,rfl⟩|exact AM am.isSlS) dq Z Z Aa fun cd al jv bg=>?_
   replace bg:BX cd.heap c7.heap.size [bh]:=bg
   have gj:Az w cd:=al.below e8 (fun _ h=>zE h) e8.size
   have ix:d0.heap.size≤cd.heap.size:=al.size
   have gk:=dr.chg al (zB ·)
   have gm:=bf.chg (Ad<|Aj 46 (dp+2)) al fun c hc=>zH<|A9 hc
   have gn:=ds.chg al (zB ·)
   have e9:=am.chg (Ad<|Aj 46 (dp+2)) al fun c hc=>zH<|A9 hc
   refine Ai<|L9 [2,0,0,3,0,0,0,3,4,0] Z<|Au (p:=zP c7.heap.size) (.inr Z) [bh] AL Z (fun be a0=>LD.of_box<|BX.ext (w:=cd) bg a0) Z Aa<|Ag 2 Z<|As 33 [] [] [.agg #[bh],zI f,zI n] Z Z JT Aa (D2 _ (dp+2) bh (p) (f) (n) (RN.of_frF e9 fun b hb=>by cases hb) _hf _hn hz oM) ?_
   rintro dg br ⟨bc,rfl,ad,go⟩
   refine⟨_,rfl,ad,?_⟩
   have iy:=ad.size
   have gp:=gj.trans ad
   have an:=gk.ext ad
   have bi:=gm.ext (Ad<|Aj 46 (dp+2)) ad
   have ao:=gn.ext ad
   have bj:=e9.ext (Ad<|Aj 46 (dp+2)) ad
   have ap:=bg.ext ad
   have iz:=FX (p:=p) (f:=f) (n:=n)
   refine Ag 1 Z<|Cu (vs:=[.agg #[bc],zI<|CH p f n]) (.agg #[bc]) Z Z Aa<|Cu (vs:=[.agg #[bc],zI<|CH p f n]) (zI<|CH p f n) Z Z Aa ?_
   have jw:=an.lt
   have jx:=ao.lt
   have jy:=ap.lt
   refine AI (z:=.agg #[zN]) DD Aa fun d2 ae jz dt=>?_
   have j0:=ae.size
   have ea:=gp.trans ae
   have bk:=an.ext ae
   have bm:=bi.ext (Ad<|Aj 46 (dp+2)) ae
   have bn:=ao.ext ae
   have bo:=bj.ext (Ad<|Aj 46 (dp+2)) ae
   have bp:=ap.ext ae
   have aq:=go.ext (Ad<|Aj 46 (dp+2)) ae
   replace dt:BX d2.heap br.heap.size [zN]:=dt
   refine AP (vs:=[bc]) AL Z Z (by intro u hu;simp only[ze,z2,or_false]at hu;rcases hu with rfl <;> first|exact⟨rfl,rfl⟩|exact AM aq.isSlS) dt Z Z Aa fun cf af k0 bq=>?_
   replace bq:BX cf.heap br.heap.size [bc]:=bq
   have gq:Az w cf:=af.below ea (fun _ h=>zE h) ea.size
   have j1:d2.heap.size≤cf.heap.size:=af.size
   have gr:=bk.chg af (zB ·)
   have eb:=bm.chg (Ad<|Aj 46 (dp+2)) af fun c hc=>zH<|A9 hc
   have ec:=bn.chg af (zB ·)
   have gt:=bo.chg (Ad<|Aj 46 (dp+2)) af fun c hc=>zH<|A9 hc
   have gu:=bp.chg af (zB ·)
   have ed:=aq.chg (Ad<|Aj 46 (dp+2)) af fun c hc=>zH<|A9 hc
   refine Ac 1 Z<|A0<|L9 [2,2,3,0,0,0,0,0,0] Z<|Au (p:=zP br.heap.size) (.inr Z) [bc] AL Z (fun be a0=>LD.of_box<|BX.ext (w:=cf) bq a0) Z Aa<|Au (p:=zP w5.heap.size) (.inr Z) [v5] AL Z (fun be a0=>LD.of_box<|BX.ext (w:=cf) ec a0) Z Aa<|As 34 [] [] [.agg #[bc],.agg #[v5]] Z Z IJ Aa (BP _ (dp+2) bc (EW p f n) (dp+2) v5 (EW p f n) (RN.of_frF ed fun b hb=>by cases hb) (RN.of_frF eb fun b hb=>by cases hb) (by rfl)) ?_
   rintro dh cu ⟨rfl,a8⟩
   refine⟨_,rfl,a8,?_⟩
   have j2:=a8.size
   have ee:=gq.trans a8
   have ar:=gr.ext a8
   have bs:=eb.ext (Ad<|Aj 46 (dp+2)) a8
   have bt:=ec.ext a8
   have bu:=gt.ext (Ad<|Aj 46 (dp+2)) a8
   have au:=gu.ext a8
   have bv:=ed.ext (Ad<|Aj 46 (dp+2)) a8
   have bw:=bq.ext a8
   refine AZ false Z Z Aa<|Ag 3 Z<|AR false Z Z sM (Ae (e:=44) Z Z Z)<|Ac 1 Z<|Ak Z<|A2<|A0<|A0<|Bd _ [1,1,3,3,0] mixed (by kernel_rfl)<|Au (p:=zP c7.heap.size) (.inl Z) [bh] AL Z (fun be a0=>LD.of_box<|BX.ext (w:=cu.drew) au a0) Z Aa<|Au (p:=zP w.heap.size) (.inl Z) [vp] Gj Z (fun be a0=>LD.of_box<|BX.ext (w:=cu.drew) ar a0) Z Aa<|As 32 [] [] [.agg #[vp]] Z Z II Aa (BQ _ (dp+2) vp (p) (dx.ext (Ax<|Aq (dp+2)) ee.drew) oM) ?_
   rintro di dj ⟨d3,rfl,a1,bx⟩
   refine⟨_,rfl,a1,?_⟩
   replace a1:=a1.of_drew
   have j3:=a1.size
   have gv:=ee.trans a1
   have bz:=ar.ext a1
   have c1:=bs.ext (Ad<|Aj 46 (dp+2)) a1
   have c2:=bt.ext a1
   have av:=bu.ext (Ad<|Aj 46 (dp+2)) a1
   have c3:=au.ext a1
   have c4:=bv.ext (Ad<|Aj 46 (dp+2)) a1
   have c5:=bw.ext a1
   replace bx:=bx.low (B':=cu.heap.size)<|A7 _
   refine As 34 [] [] [.agg #[bh],.agg #[d3]] Z Z IJ Aa (BP _ (dp+2) bh (p) (dp+2) d3 (p) (RN.of_frF av fun b hb=>by cases hb) (RN.of_frF bx fun b hb=>by cases hb) (by rfl)) ?_
   rintro e0 d4 ⟨rfl,a4⟩
   refine⟨_,rfl,a4,?_⟩
   have j4:=a4.size
   have ef:=gv.trans a4
   have c6:=bz.ext a4
   have c8:=c1.ext (Ad<|Aj 46 (dp+2)) a4
   have c9:=c2.ext a4
   have ca:=av.ext (Ad<|Aj 46 (dp+2)) a4
   have aw:=c3.ext a4
   have cb:=c4.ext (Ad<|Aj 46 (dp+2)) a4
   have cc:=c5.ext a4
   refine AZ false Z Z Aa<|Ai<|Ak Z<|A2<|La Z<|L9 [2,0,4,0] Z<|Au (p:=zP c7.heap.size) (.inr Z) [bh] AL Z (fun be a0=>LD.of_box<|BX.ext (w:=d4) aw a0) Z Aa<|Ag 1 Z ?_
   obtain⟨dc,gw,gx,ag⟩:=ca
   refine D9 35 [] [] [.agg #[bh],zI ((1:Nat):Int)] Z Z JU Aa (CC _ (dp+2) bh p dc ((1:Nat):Int) gw gx oM oM) ?_
   rintro e6 cr ⟨rfl,ac,k1⟩
   refine⟨_,rfl,?_⟩
   have eg:Az w cr:=ac.below ef (fun c hc=>A8 oM (ag c hc).1) ef.size
   have j5:d4.heap.size≤cr.heap.size:=ac.size
   have gy:=c6.chg ac fun hm=>zH<|ag _ hm
   have eh:=c8.chg (Ad<|Aj 46 (dp+2)) ac fun c hc=>zH<|ag c hc
   have ei:=c9.chg ac fun hm=>zH<|ag _ hm
   have i0:=aw.chg ac fun hm=>zH<|ag _ hm
   have ej:=cb.chg (Ad<|Aj 46 (dp+2)) ac fun c hc=>zH<|ag c hc
   have ek:=cc.chg ac fun hm=>zH<|ag _ hm
   refine Ac 1 Z<|A0<|L9 [0,0,0,2,2,3,0,0,0,0,0,0,0] Z<|Ag 1 Z ?_
   by_cases el:((1:Nat):Int)+((C8 p:Nat):Int)<((0:Nat):Int)
   ·
     exact AA true Z Z (A5 el) Aa<|Ac 11 Z<|Ah Z<|La Z<|A1<|Am<|Af [6] Z (.bool false) Z ⟨GE,eg⟩
   
    refine AA false Z Z (A6 el) Aa<|Ag 1 Z<|Au (p:=zP br.heap.size) (.inr Z) [bc] AL Z (fun be a0=>LD.of_box<|BX.ext (w:=cr) ek a0) Z (Ae (e:=59) Z Z Z)<|Au (p:=zP w5.heap.size) (.inr Z) [v5] AL Z (fun be a0=>LD.of_box<|BX.ext (w:=cr) ei a0) Z (Ae (e:=59) Z Z Z)<|As 34 [] [] [.agg #[bc],.agg #[v5]] Z Z IJ (Ae (e:=59) Z Z Z) (BP _ (dp+2) bc (EW p f n) (dp+2) v5 (EW p f n) (RN.of_frF ej fun b hb=>by cases hb) (RN.of_frF eh fun b hb=>by cases hb) (by rfl)) ?_
    rintro f0 d5 ⟨rfl,a9⟩
    refine⟨_,rfl,a9,?_⟩
    have j6:=a9.size
    have em:=eg.trans a9
    have ce:=gy.ext a9
    have cg:=eh.ext (Ad<|Aj 46 (dp+2)) a9
    have ch:=ei.ext a9
    have ci:=i0.ext a9
    have cj:=ej.ext (Ad<|Aj 46 (dp+2)) a9
    have ax:=ek.ext a9
    refine AZ false Z Z (Ae (e:=59) Z Z Z)<|Ag 4 Z<|AR false Z Z sM (Ae (e:=65) Z Z Z)<|Ac 1 Z<|Ak Z<|A2<|La Z<|L9 [2,0,4,0] Z<|Au (p:=zP br.heap.size) (.inr Z) [bc] AL Z (fun be a0=>LD.of_box<|BX.ext (w:=d5) ax a0) Z Aa<|Ag 1 Z ?_
    obtain⟨d8,i2,en,ah⟩:=cj
    refine D9 35 [] [] [.agg #[bc],zI ((1:Nat):Int)] Z Z JU Aa (CC _ (dp+2) bc (EW p f n) d8 ((1:Nat):Int) i2 en oM oM) ?_
    rintro f1 ck ⟨rfl,ai,eo⟩
    refine⟨_,rfl,?_⟩
    have i3:Az w ck:=ai.below em (fun c hc=>A8 oM (ah c hc).1) em.size
    have j7:d5.heap.size≤ck.heap.size:=ai.size
    have i4:=ce.chg ai fun hm=>zH<|ah _ hm
    have i6:=cg.chg (Ad<|Aj 46 (dp+2)) ai fun c hc=>zH<|ah c hc
    have i7:=ch.chg ai fun hm=>zH<|ah _ hm
    have i8:=ci.chg ai fun hm=>zH<|ah _ hm
    have ep:=ax.chg ai fun hm=>zH<|ah _ hm
    have dn:Fr (Be 3 (CU 46 (dp+2)) 49) cd.heap.size ck.heap.size ck.heap bc (Db ((1:Nat):Int) (EW p f n)):=⟨d8,eo,en,fun c hc=>⟨(ah c hc).1,(Ad (Aj 46 (dp+2))).lt eo c hc⟩⟩
    refine Ac 1 Z<|La Z<|L9 [2,0,3,0] Z ?_
    have hmm:=Gt ((1:Nat):Int)<|EW p f n
    refine Au (p:=zP br.heap.size) (.inr Z) [bc] AL Z (fun be a0=>LD.of_box<|BX.ext (w:=ck) ep a0) Z Aa<|Ag 1 Z<|As 36 [] [] [.agg #[bc],zI ((1:Nat):Int)] Z Z JV Aa (CD _ (dp+2) bc (Db ((1:Nat):Int)<|EW p f n) ((1:Nat):Int) (RN.of_frF dn fun b hb=>by cases hb) oM (by exact⟨_,rfl⟩) oM) ?_
    rintro f2 dd ⟨rfl,aa⟩
    refine⟨_,rfl,aa,?_⟩
    have j8:=aa.size
    have cl:=i3.trans aa
    have ay:=i4.ext aa
    have cn:=i6.ext (Ad<|Aj 46 (dp+2)) aa
    have co:=i7.ext aa
    have cp:=i8.ext aa
    have b8:=dn.ext (Ad<|Aj 46 (dp+2)) aa
    have cq:=ep.ext aa
    refine Ac 1 Z<|A0<|L9 [0,0] Z<|Ag 1 Z ?_
    by_cases eq:((1:Nat):Int)+((C8 (Db ((1:Nat):Int) (EW p f n)):Nat):Int)<((0:Nat):Int)
    ·
      exact AA true Z Z (A5 eq) Aa<|Ai<|Ah Z<|La Z<|A1<|Am<|Af [6] Z (.bool false) Z ⟨GE,cl⟩
    
     refine AA false Z Z (A6 eq) Aa<|Ai<|Ak Z<|A2<|A0<|L9 [0,0,0] Z<|Ag 2 Z ?_
     by_cases er:((1:Nat):Int)+((C8 (Db ((1:Nat):Int) (EW p f n)):Nat):Int)≠((1:Nat):Int)+((C8 (EW p f n):Nat):Int)
     ·
       exact AR true Z Z (A5 er) Aa<|Ai<|Ah Z<|La Z<|A1<|Am<|Af [6] Z (.bool false) Z ⟨GE,cl⟩
     
      refine AR false Z Z (A6 er) Aa<|Ai<|Ak Z<|A2<|L9 [2,3,0,0,3,0,0,0,3,4,0] Z<|Au (p:=zP w.heap.size) (.inr Z) [vp] Gj Z (fun be a0=>LD.of_box<|BX.ext (w:=dd) ay a0) Z Aa<|As 32 [] [] [.agg #[vp]] Z Z II Aa (BQ _ (dp+2) vp (p) (dx.ext (Ax<|Aq (dp+2)) cl) oM) ?_
      rintro f3 f4 ⟨da,rfl,ab,es⟩
      refine⟨_,rfl,ab,?_⟩
      have j9:=ab.size
      have ia:=cl.trans ab
      have ct:=ay.ext ab
      have cv:=cn.ext (Ad<|Aj 46 (dp+2)) ab
      have cw:=co.ext ab
      have cx:=cp.ext ab
      have b9:=b8.ext (Ad<|Aj 46 (dp+2)) ab
      have cy:=cq.ext ab
      refine Ag 2 Z<|As 33 [] [] [.agg #[da],zI f,zI n] Z Z JT Aa (D2 _ (dp+2) da (p) (f) (n) (RN.of_frF es fun b hb=>by cases hb) _hf _hn hz oM) ?_
      rintro f5 cz ⟨bl,rfl,a5,ib⟩
      refine⟨_,rfl,a5,?_⟩
      have ja:=a5.size
      have ic:=ia.trans a5
      have az:=ct.ext a5
      have d1:=cv.ext (Ad<|Aj 46 (dp+2)) a5
      have b0:=cw.ext a5
      have b1:=cx.ext a5
      have ba:=b9.ext (Ad<|Aj 46 (dp+2)) a5
      have b2:=cy.ext a5
      have jb:=FX (p:=p) (f:=f) (n:=n)
      refine Ag 1 Z<|Cu (vs:=[.agg #[bl],zI<|CH p f n]) (.agg #[bl]) Z Z Aa<|Cu (vs:=[.agg #[bl],zI<|CH p f n]) (zI<|CH p f n) Z Z Aa ?_
      have k2:=az.lt
      have k3:=b0.lt
      have k4:=b1.lt
      have k5:=b2.lt
      refine AI (z:=.agg #[zN]) DD Aa fun db a6 k6 du=>?_
      have jc:=a6.size
      have et:=ic.trans a6
      have d6:=d1.ext (Ad<|Aj 46 (dp+2)) a6
      have d7:=b0.ext a6
      have bb:=ba.ext (Ad<|Aj 46 (dp+2)) a6
      have d9:=b2.ext a6
      have b3:=ib.ext (Ad<|Aj 46 (dp+2)) a6
      replace du:BX db.heap cz.heap.size [zN]:=du
      refine AP (vs:=[bl]) AL Z Z (by intro u hu;simp only[ze,z2,or_false]at hu;rcases hu with rfl <;> first|exact⟨rfl,rfl⟩|exact AM b3.isSlS) du Z Z Aa fun cm a7 k7 dv=>?_
      replace dv:BX cm.heap cz.heap.size [bl]:=dv
      have id:Az w cm:=a7.below et (fun _ h=>zE h) et.size
      have jd:db.heap.size≤cm.heap.size:=a7.size
      have eu:=d6.chg (Ad<|Aj 46 (dp+2)) a7 fun c hc=>zH<|A9 hc
      have ev:=d7.chg a7 (zB ·)
      have ii:=bb.chg (Ad<|Aj 46 (dp+2)) a7 fun c hc=>zH<|A9 hc
      have ij:=d9.chg a7 (zB ·)
      have ew:=b3.chg (Ad<|Aj 46 (dp+2)) a7 fun c hc=>zH<|A9 hc
      refine Ac 1 Z<|A0<|L9 [2,2,3,0,0,0,0,0,0] Z<|Au (p:=zP cz.heap.size) (.inr Z) [bl] AL Z (fun be a0=>LD.of_box<|BX.ext (w:=cm) dv a0) Z Aa<|Au (p:=zP w5.heap.size) (.inr Z) [v5] AL Z (fun be a0=>LD.of_box<|BX.ext (w:=cm) ev a0) Z Aa<|As 34 [] [] [.agg #[bl],.agg #[v5]] Z Z IJ Aa (BP _ (dp+2) bl (EW p f n) (dp+2) v5 (EW p f n) (RN.of_frF ew fun b hb=>by cases hb) (RN.of_frF eu fun b hb=>by cases hb) (by rfl)) ?_
      rintro f6 de ⟨rfl,a2⟩
      refine⟨_,rfl,a2,?_⟩
      have je:=a2.size
      have im:=id.trans a2
      have b4:=ii.ext (Ad<|Aj 46 (dp+2)) a2
      have b5:=ij.ext a2
      refine AZ false Z Z Aa<|Ag 3 Z<|AR false Z Z sM (Ae (e:=93) Z Z Z)<|Ac 1 Z<|Ak Z<|A2<|La Z<|L9 [2,0,3,0] Z ?_
      have hmm:=Gt ((1:Nat):Int)<|EW p f n
      refine Au (p:=zP br.heap.size) (.inr Z) [bc] AL Z (fun be a0=>LD.of_box<|BX.ext (w:=de) b5 a0) Z Aa<|Ag 1 Z<|As 36 [] [] [.agg #[bc],zI ((1:Nat):Int)] Z Z JV Aa (CD _ (dp+2) bc (Db ((1:Nat):Int)<|EW p f n) ((1:Nat):Int) (RN.of_frF b4 fun b hb=>by cases hb) oM (by exact⟨_,rfl⟩) oM) ?_
      rintro f7 f8 ⟨rfl,a3⟩
      refine⟨_,rfl,a3,?_⟩
      have jf:=a3.size
      have dw:=im.trans a3
      refine Ac 1 Z<|A0<|L9 [0,0] Z<|Ag 1 Z ?_
      by_cases ex:((1:Nat):Int)+((C8 (Db ((1:Nat):Int) (EW p f n)):Nat):Int)<((0:Nat):Int)
      ·
        exact AA true Z Z (A5 ex) Aa<|Ai<|Ah Z<|La Z<|A1<|Am<|Af [6] Z (.bool false) Z ⟨GE,dw⟩
      
       refine AA false Z Z (A6 ex) Aa<|Ai<|Ak Z<|A2<|A0<|L9 [0,0,0] Z<|Ag 2 Z ?_
       by_cases ey:((1:Nat):Int)+((C8 (Db ((1:Nat):Int) (EW p f n)):Nat):Int)≠((1:Nat):Int)+((C8 (EW p f n):Nat):Int)
       ·
         exact AR true Z Z (A5 ey) Aa<|Ai<|Ah Z<|La Z<|A1<|Am<|Af [6] Z (.bool false) Z ⟨GE,dw⟩
       
        exact AR false Z Z (A6 ey) Aa<|Ai<|Ak Z<|A2<|La Z<|A1<|Af [6] Z (.bool true) Z ⟨GE,dw⟩
end
end Go.Proofs.Ytjnbnlniafmblaa
