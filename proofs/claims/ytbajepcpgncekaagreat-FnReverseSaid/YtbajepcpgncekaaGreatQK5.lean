/- Yd, Ye, Yr, Yw: texts of this claim, joined; what the claim does not come to is left out. -/
import Derived.Test.YtbajepcpgncekaaGreatQK4
import Derived.Test.YtbajepcpgncekaaGreatProg
set_option linter.unusedVariables false
set_option linter.unusedSimpArgs false
namespace Go.Proofs.YtbajepcpgncekaaGreat
open Go Go.RowKit
section
set_option maxHeartbeats 4000000
set_option maxRecDepth 100000
attribute [local irreducible] LW
theorem Bh (w:World)(r:Int)(vs:Value)(s:Sr)(S:List Nat)(vo:Nat)(vov:Value)(xs:List (Sr))(usxs:List Value)(Fxs:List Nat)(BO:Nat)(_hr:Bt r)(hs:Rd (AX rI) w.heap vs s)(hcxs:GE w.heap (zP vo)=some vov)(hbxs:GR 27 S BO w.heap vov xs usxs Fxs)(hSB:∀b∈S,b<BO)(a9:∀b∈S,b<w.heap.size)(hr:0≤r∧r<(xs.length:Int))(hxl:(xs.getD r.toNat []).length≤s.length∧s.length≤13)(hxn:B2 (xs.getD r.toNat [])=true)(hsn:B2 s=true) :
  Calls Tryz.prog 231 #[zI r,vs,zP vo] w (fun e w'=>e=.returned (.tuple #[])∧As Fxs w w'∧∃us',GR 27 S BO w'.heap vov (EF xs r s) us' Fxs):=by
 refine Ap [zI r,vs,zP vo] 14 Tryz.func231 Z Z sM ?_
 have a2:AG w w:=AG.refl w
 have ad:=hs.lenle
 have hFl:∀b∈Fxs,b<w.heap.size:=hbxs.lt
 refine AQ _ [1,0,1,0,0,1,0,3,0,4] mixed (by kernel_rfl)<|Ah (.inl Z) vov KV Z (Bc a2.drew hcxs) Aa<|Ad 1 Z<|Ah (.inl Z) vov KV Z (Bc a2.drew hcxs) Aa<|Ad 1 Z<|Az (v:=vov) ((r).toNat) BH B9 Z Z (hbxs.done hSB).none.slL oM sD Aa ?_
 obtain⟨a7,aa,a4⟩:=hbxs.getF (k:=(r).toNat) sD
 have a5:=a4.lenL
 unfold maxLen at a5
 refine Ah (p:=Ax vov ((r).toNat) 1) (.inl Z) a7 Bk Z aa Aa<|Ad 1 Z<|Au 185 [] [] [a7,vs] Z Z NO Aa (DS _ _ _ _ _ a4.rd (hs.ext g1 a2.drew) oM oM hxn hsn) ?_
 rintro e2 w2 ⟨a6,rfl,a1,a0⟩
 refine⟨_,rfl,a1,?_⟩
 replace a1:=a1.of_drew
 have ab:=a1.size
 have ac:=a2.trans a1
 have a8:=hbxs.ext a1
 replace a0:=a0.low (B':=w.heap.size)<|A7 _
 refine Az (v:=vov) ((r).toNat) BH B9 Z Z (a8.done hSB).none.slL oM sD Aa ?_
 refine S0 (v:=vov) (u:=a6) (w:=w2) On Z Z a8 (RN.of_fr1 a0 fun b hb=>by rcases zi.1 hb with hb|hb;(have:=a9 b hb;omega);(have:=hFl b hb;omega)) sD Aa fun w5 a3 ah ae=>?_
 have af:w2.heap.size≤w5.heap.size:=a3.size
 have ag:As Fxs w w5:=(As.of_ext _ ac).trans a3
 exact Aj<|Qn [] Z (.tuple #[]) Z ⟨rfl,ag,_,ae⟩
theorem Jz {p:Prop}(h:p:=by first|(rw[show(kk-1+1).toNat=kk.toNat from by omega];exact G5 hadj oM (ND oM))|(rw[show(kk-1+1).toNat=kk.toNat from by omega];exact G5 hadj oM (NE oM))|(rw[show(kk-1+1).toNat=kk.toNat from by omega];exact G5 hadj oM (NF oM))|(rw[show(kk-1+1).toNat=kk.toNat from by omega];exact G5 hadj oM (NG oM))|(rw[show(kk-1+1).toNat=kk.toNat from by omega];exact G5 hadj oM (NH oM))|(rw[show(kk-1+1).toNat=kk.toNat from by omega];exact G5 hadj oM (NI oM))):p:=h
theorem JA {p:Prop}(h:p:=by(try rw[show((1000002:Nat):Int)=1000002 from rfl]);first|(rw[← ND (k:=kk.toNat) (R:=R) oM];exact Gs hxs oM (hform _ hkn))|(rw[← NE (k:=kk.toNat) (R:=R) oM];exact Gs hxs oM (hform _ hkn))|(rw[← NF (k:=kk.toNat) (R:=R) oM];exact Gs hxs oM (hform _ hkn))|(rw[← NG (k:=kk.toNat) (R:=R) oM];exact Gs hxs oM (hform _ hkn))|(rw[← NH (k:=kk.toNat) (R:=R) oM];exact Gs hxs oM (hform _ hkn))|exact hxs):p:=h
theorem Fh {p:Prop}(h:p:=by first|exact hro.2|exact hRa.2|exact hRb.2|exact hRk.2|exact Ep _ _|exact ES _ _|exact Eo _ _):p:=h
theorem GA {p:Prop}(h:p:=by refine⟨?_,?_⟩ <;> first|omega|(simp only[FU,FS,DL,FT];omega)):p:=h
theorem GB {p:Prop}(h:p:=by first|exact hro.2|exact Ep _ _|exact ES _ _|exact Eo _ _):p:=h
theorem Fi {p:Prop}(h:p:=by first|omega|(simp only[FU,FS,DL,FT];omega)):p:=h
theorem JB {p:Prop}(h:p:=by first|exact hxl|(simp only[BL];exact hxl)):p:=h
theorem Hm (w:World)(m:Nat)(ni:Nat)(S:List Nat)(ipT:Int)(vtc vtg vtx:Value)(T:Tp)(oT:Sr)(vr:Value)(R:List (Sr))(vw:Value)(ws:Sr)(c1:∀b∈S,b<w.heap.size)(_hipT:Bt ipT)(htcT:RN [] (Dw 4 No) w.heap vtc T.code)(htgT:RN [] (Dw 2 Np) w.heap vtg T.grd)(htoT:RN [] (AX rI) w.heap vtx oT)(hR:RN [] (AX (AX rI)) w.heap vr R)(hqR:C8 vr)(hws:Rd (AX rI) w.heap vw ws)(hm:1≤m∧m≤13)(hsR:C0 m R)(hlR:R.length=T.code.length)(hlt:T.code.length≤4000)(hlo:oT.length≤ws.length∧ws.length≤1000000)(ho:∀k,k<oT.length→0≤oT.getD k 0∧oT.getD k 0<(T.code.length:Int))(hnw:B2 ws=true)(hform:∀k,k<T.code.length→Es ni k (T.code.getD k AD.zero)) :
  Calls Tryz.prog 184 #[(.agg #[(zI ipT),vtc,vtg,vtx]),vr,vw] w (fun e w'=>∃v0:Value,e=.returned v0∧AG w w'∧RN S (AX (AX rI)) w'.heap v0 (IS T.code R oT ws)∧C8 v0):=by
 refine Ap [.agg #[zI ipT,vtc,vtg,vtx],vr,vw] 159 Tryz.func184 Z Z sM ?_
 have jn:AG w w:=AG.refl w
 have hl_vtx:=htoT.lenL
 unfold maxLen at hl_vtx
 have f4:=hR.lenL
 unfold maxLen at f4
 have fj:=hws.lenle
 refine aH [3,0] Z (Bu (cs:=#[zI ipT,vtc,vtg,vtx]) Z Aa fun w1 gx ks gy=>?_)
 have gz:=gx.size
 have jo:=jn.trans gx
 replace gy:BX w1.heap w.heap.size [zI ipT,vtc,vtg,vtx]:=gy
 refine Ac 1 Z<|aH [3,3,4] Z (Ch (Bi rI 2) o1 BH B9 Aa fun v2 w2 gu kt jp=>?_)
 have i0:=gu.size
 have jq:=jo.trans gu
 have cu:=gy.ext gu
 have lu:=cu.lt
 refine Bp (z:=zN) (by kernel_rfl) Aa fun w3 dx ku i1=>?_
 have i3:=dx.size
 have i4:=jq.trans dx
 have dy:=cu.ext dx
 have c2:=jp.ext (o2) dx
 replace i1:BX w3.heap w2.heap.size [zN]:=i1
 refine Bl (k:=0) (w:=w3) YI Z Z (Bq c2.isSl) i1 sM Aa fun w5 dz kv gv=>?_
 replace gv:BX w5.heap w2.heap.size [v2]:=gv
 have jr:AG w w5:=dz.below i4 (fun _ h=>zE h) i4.size
 have i5:w3.heap.size≤w5.heap.size:=dz.size
 have js:=dy.chg dz (zB ·)
 have jt:=c2.chg (o2) dz fun _ h=>zA h
 refine Aj<|A0<|aH [0,0,0] Z<|Ad 1 Z<|AO (v:=vr) BH Z hR.slL Aa<|Ac 1 Z<|A3 ?_
 have hLBa:w.heap.size<w1.heap.size:=by omega
 have hLBb:w1.heap.size≤w2.heap.size:=by omega
 have hLBc:=Nat.le_of_lt hLBa
 obtain⟨Fo8,e0⟩:=Ow.of_fr (T:=w2.heap.size) jt (A7 _)
 have kw:w2.heap.size∉Fo8:=fun hm=>zH<|e0.high _ hm
 have kx:=e0.up (T':=w5.heap.size) oM
 have ky:w2.heap.size<w5.heap.size:=BX.lt gv
 refine AW (S:=Nat×Value×List Nat) (fun⟨k,vo,Fo⟩=>([(20,zI (k:Int)),(1,vr),(2,vw),(3,zP w.heap.size),(7,zP w2.heap.size),(18,vr),(19,zI (R.length:Int))])) (fun⟨k,vo,Fo⟩ W=>AG w W∧BX W.heap w.heap.size [zI ipT,vtc,vtg,vtx]∧BX W.heap w2.heap.size [vo]∧k≤R.length∧Ow (Bi (Bi rI 2) 27) w1.heap.size W.heap.size W.heap vo (IR<|R.take k) Fo∧w2.heap.size∉Fo) (fun⟨k,vo,Fo⟩=>R.length-k) (0,v2,Fo8) ⟨rfl,rfl,rfl,rfl,rfl,rfl,rfl,trivial⟩ ⟨jr,js,gv,oM,(by assumption),(by assumption)⟩ ?_
 clear jn ks gx gz jo jp kt gu i0 jq ku dx i3 i4 c2 kv dz jr i5 js jt
 rintro⟨k,vo,Fo⟩ ρ9 w9 ⟨e1,ax,ap,ju,hOl,hgF⟩
 have i6:w.heap.size≤w9.heap.size:=e1.size
 have kz:=ax.lt
 have l0:=ap.lt
 have m1:w2.heap.size<w9.heap.size:=BX.lt ap
 refine aH [0] Z ?_
 by_cases e2:(k:Int)<(R.length:Int)
 ·refine AE true Z Z (A5 e2) Aa<|Aj<|A0<|Ag Z<|A2<|A0<|A3<|aH [0,2,0] Z<|Az (v:=vr) k BH B9 Z Z hR.slL Z sD Aa ?_
  obtain⟨e3,i8,e4⟩:=RN.getL (w:=w) g1 [] (k:=k) hR sD
  have e5:=e4.lenL
  unfold maxLen at e5
  refine Ah (p:=Ax vr k 1) (.inr Z) e3 Bk Z (i8 _<|As.of_ext [] e1) Aa<|Ac 1 Z<|AQ _ [1,0,0,3,3,4,4] mixed (by kernel_rfl) ?_
  have hrk:=hsR k oM
  have l1:=hrk.1
  refine Ah (p:=zP w2.heap.size) (.inl Z) vo KV Z (ap.ld (k:=0) sM) Aa<|Ad 1 Z<|AO (v:=e3) Bj Z e4.slL Aa (EL (n:=(R.getD k []).length) Bj Bz Z Z Z sD Aa fun fq m2 b5 l2 i9=>?_)
  replace b5:=b5.of_drew
  have jv:=b5.size
  have ia:=e1.trans b5
  have c3:=ax.ext b5
  have c4:=ap.ext b5
  have ib:=hOl.ext o2 b5
  refine BI (u:=fq) (B:=w9.heap.size) o1 BH B9 Z Z i9 (by first|exact A7 _|omega) Aa fun fr fs c5 l3 ic=>?_
  have jw:=c5.size
  have e6:=ia.trans c5
  have c6:=c3.ext c5
  have c7:=c4.ext c5
  have df:=ib.ext o2 c5
  refine V5 o1 (v:=vo) (a:=fr) BH B9 Z Z Z df ic oM oM oM sD (by unfold maxLen;first|omega|assumption|(simp;done)|(simp;omega)) Aa fun fk f9 fl ck e7 id=>?_
  have jx:fs.heap.size≤f9.heap.size:=ck.size
  have e8:AG w f9:=ck.below e6 (fun c hc=>A8 hLBc (df.low c (zj hc))) e6.size
  have ie:=c6.chg ck fun hm=>zH<|df.low _ (zj hm)
  have ig:=c7.chg ck fun hm=>hgF<|zj hm
  have hF25d:w2.heap.size∉fl:=fun hm=>(id _ hm).elim hgF (fun h9=>by omega)
  refine Bl (k:=0) (w:=f9) YI Z Z (Bq e7.slO) ig sM Aa fun fa cl l4 dg=>?_
  replace dg:BX fa.heap w2.heap.size [fk]:=dg
  have ih:AG w fa:=cl.below e8 (fun _ h=>zE h) e8.size
  have jy:f9.heap.size≤fa.heap.size:=cl.size
  have ii:=ie.chg cl (zB ·)
  have ij:=e7.keep o2 cl fun b hb hm=>by rw[A9 hb]at hm;exact hF25d hm
  refine Aj<|Ab _ [0,0] Z<|AN ((k+1:Nat):Int) Z Z (Be oM sD) Aa<|Ac 1 Z ?_
  have hOe:=(ij).up (T':=fa.heap.size) oM
  rw[S3 oM]at hOe
  exact⟨(k+1,fk,fl),_,rfl,zR,⟨ih,ii,dg,oM,hOe,(by assumption)⟩,zD⟩
 refine AE false Z Z (A6 e2) Aa<|Aj<|A0<|Ai Z<|A4<|Av<|Av<|Aq<|A0<|aH [0,2,0,0] Z<|Ak (p:=zP w.heap.size) 3 Js Z Z Aa<|Ah (p:=Ao (zP w.heap.size) 3) (.inr Z) vtx Bk Z (ax.ldp (i:=3) sM) Aa<|AO (v:=vtx) Bj Z htoT.slL Aa<|Ac 1 Z<|A3 ?_
 refine AW (S:=Nat) (fun i=>([(34,zI (i:Int)),(1,vr),(2,vw),(3,zP w.heap.size),(7,zP w2.heap.size),(32,vtx),(33,zI (oT.length:Int))])) (fun i W=>AG w W∧BX W.heap w.heap.size [zI ipT,vtc,vtg,vtx]∧BX W.heap w2.heap.size [vo]∧i≤oT.length∧Ow (Bi (Bi rI 2) 27) w1.heap.size W.heap.size W.heap vo (Lk oT ws i<|IR R) Fo) (fun i=>oT.length-i) 0 ⟨rfl,rfl,rfl,rfl,rfl,rfl,rfl,trivial⟩ ⟨e1,ax,ap,oM,(by have h9:=hOl;rw[za oM]at h9;exact h9)⟩ ?_
 clear ap ax e1 i6
 rintro i ρ30 f5 ⟨b6,aj,a5,ik,ay⟩
 have e9:w.heap.size≤f5.heap.size:=b6.size
 have hwl:(Lk oT ws i (IR R)).length=T.code.length:=by rw[DQ,CO];exact hlR
 have l5:=aj.lt
 have l6:=a5.lt
 have l7:w2.heap.size<f5.heap.size:=BX.lt a5
 refine aH [0] Z ?_
 by_cases ea:(i:Int)<(oT.length:Int)
 ·refine AE true Z Z (A5 ea) Aa<|Aj<|A0<|Ag Z<|A2<|A0<|A3<|aH [0,0,2,0,0] Z<|Ad 1 Z<|Az (v:=vtx) i Bj Bz Z Z htoT.slL Z sD Aa ?_
  have il:=RN.getI (w:=w) (k:=i) htoT sD
  refine Ah (p:=Ax vtx i 1) (.inr Z) (zI<|oT.getD i 0) AC Z (il.1 _<|As.of_ext [] b6) Aa<|Ac 2 Z<|AQ _ [1,0,0,1,1,0,0,1,0,1,0,0,0,1,0,0,4] mixed (by kernel_rfl) ?_
  have hor:=ho i oM
  have hrw:=HB (m:=m) (ws:=ws) (Gr hsR) (fun q hq=>by have:=ho q hq;rw[CO];omega) i oM (oT.getD i 0).toNat oM
  have l8:=hrw.1
  refine Ah (p:=zP w2.heap.size) (.inl Z) vo KV Z (a5.ld (k:=0) sM) Aa<|Ad 1 Z<|Az (v:=vo) ((oT.getD i 0).toNat) BH B9 Z Z ay.slO oM sD Aa ?_
  obtain⟨dh,eb,ec⟩:=ay.rowO (k:=(oT.getD i 0).toNat) sD
  have ed:=(RN.of ec).lenL
  unfold maxLen at ed
  refine Ah (p:=Ax vo ((oT.getD i 0).toNat) 1) (.inl Z) dh Bk Z eb Aa<|Ah (p:=zP w2.heap.size) (.inl Z) vo KV Z (a5.ld (k:=0) sM) Aa<|Ad 1 Z<|Az (v:=vo) ((oT.getD i 0).toNat) BH B9 Z Z ay.slO oM sD Aa ?_
  obtain⟨di,im,dj⟩:=ay.rowO (k:=(oT.getD i 0).toNat) sD
  have ee:=(RN.of dj).lenL
  unfold maxLen at ee
  refine Ah (p:=Ax vo ((oT.getD i 0).toNat) 1) (.inl Z) di Bk Z im Aa<|Az (v:=di) 0 Bj Bz Z Z (RN.of dj).slL Z sD Aa ?_
  have ef:=RN.getI (w:=f5) (k:=0) (RN.of dj) sD
  refine Ah (p:=Ax di 0 1) (.inl Z) (zI<|((Lk oT ws i<|IR R).getD ((oT.getD i 0).toNat) []).getD 0 0) AC Z (ef.1 _ (As.refl _ _).drew) Aa<|Ad 2 Z<|Az (v:=vw) i Bj Bz Z Z hws.isSl Z sD Aa ?_
  refine Ah (p:=Ax vw i 1) (.inl Z) (zI<|ws.getD i 0) AC Z (Bc b6.drew (hws.getI sD).1) Aa ?_
  refine AA 230 [] [] [zI<|((Lk oT ws i<|IR R).getD ((oT.getD i 0).toNat) []).getD 0 0,zI<|ws.getD i 0] Z Z Sn Aa (zI<|md ((((Lk oT ws i<|IR R).getD ((oT.getD i 0).toNat) []).getD 0 0)+(ws.getD i 0))) (fun wq=>Hb wq _ _ ef.2 (hws.getI sD).2) ?_
  refine Az (v:=dh) 0 Bj Bz Z Z (RN.of ec).slL Z sD Aa ?_
  refine TC (v:=vo) (u:=dh) (w:=f5.drew) GH Z Z (E3 _) ay sD eb sD Aa fun fb G39 bj l9 dk io=>?_
  replace bj:=bj.of_drew
  have jz:f5.heap.size≤fb.heap.size:=bj.size
  have ip:AG w fb:=bj.below b6 (fun c hc=>A8 hLBc (ay.low c (dk c hc))) b6.size
  have iq:=aj.chg bj fun hm=>zH<|ay.low _ (dk _ hm)
  have ir:=a5.chg bj fun hm=>hgF<|dk _ hm
  refine Aj<|Ab _ [0,0] Z<|AN ((i+1:Nat):Int) Z Z (Be oM sD) Aa<|Ac 1 Z ?_
  have hOe:=(io).up (T':=fb.heap.size) oM
  exact⟨i+1,_,rfl,zR,⟨ip,iq,ir,oM,hOe⟩,zD⟩
 refine AE false Z Z (A6 ea) Aa<|Aj<|A0<|Ai Z<|A4<|Av<|Av<|Aq<|A0<|aH [0,2,0,0,0] Z ?_
 have hOw:=ay
 rw[show i=oT.length from by omega]at hOw
 obtain⟨la,F0,is,k0⟩:=GR.ofOw (S:=S) hOw (fun b hb=>zH<|c1 b hb)
 have cm:w2.heap.size∉F0:=fun hm=>hgF (k0 _ hm)
 obtain⟨BO,hBO⟩:∃b:Nat,b=w1.heap.size:=⟨_,rfl⟩
 rw[← hBO]at is
 have hwB:w.heap.size≤BO:=by omega
 have hSB:∀b∈S,b<BO:=fun b hb=>zH<|c1 b hb
 obtain⟨B0,gw⟩:∃l:List Sr,l=Lk oT ws oT.length (IR R):=⟨_,rfl⟩
 rw[← gw]at is
 have lb:C0 m B0:=by rw[gw];exact HB (Gr hsR) (fun q hq=>by have:=ho q hq;rw[CO];omega) _ (A7 _)
 have lc:B0.length=T.code.length:=by rw[gw,DQ,CO];exact hlR
 refine Ak (p:=zP w.heap.size) 1 EW Z Z Aa<|Ah (p:=Ao (zP w.heap.size) 1) (.inr Z) vtc JN Z (aj.ldp (i:=1) sM) Aa<|AO (v:=vtc) Oo Z htcT.isSl Aa ?_
 refine BB ((T.code.length:Int)-((1:Nat):Int)) Z Z (Dp sD sD) Aa<|Ac 1 Z<|A3 ?_
 refine AW (S:=Int×List Sr×List Value) (fun⟨kk,xs,us⟩=>([(12,zI kk),(1,vr),(3,zP w.heap.size),(7,zP w2.heap.size)])) (fun⟨kk,xs,us⟩ W=>AG w W∧BX W.heap w.heap.size [zI ipT,vtc,vtg,vtx]∧BX W.heap w2.heap.size [vo]∧(-1≤kk∧kk<(T.code.length:Int))∧GR 27 S BO W.heap vo xs us F0∧C0 m xs∧xs.length=T.code.length∧Qj T.code R (kk+1).toNat xs=Qj T.code R T.code.length B0) (fun⟨kk,xs,us⟩=>(kk+1).toNat) ((T.code.length:Int)-1,B0,la) ⟨rfl,rfl,rfl,rfl,trivial⟩ ⟨b6,aj,a5,oM,is,lb,lc,(by rw[show((T.code.length:Int)-1+1).toNat=T.code.length from by omega])⟩ ?_
 clear a5 aj b6 e9 k0
 rintro⟨kk,xs,us⟩ ρ42 f0 ⟨cn,au,a8,it,hbl,hxs,hxl,hadj⟩
 have k1:w.heap.size≤f0.heap.size:=cn.size
 have le:=au.lt
 have lf:=a8.lt
 have hFl:∀b∈F0,b<f0.heap.size:=hbl.lt
 have lg:=BX.lt a8
 refine A0<|aH [0,0] Z<|Ad 1 Z ?_
 by_cases eg:((0:Nat):Int)≤kk
 ·refine Fp true Z Z (A5 eg) Aa<|Aj<|Ag Z<|A2<|A0<|A3<|A0 ?_
  letI:JR:=QB [f0.drew.heap.size]
  refine Jx.AQ _ [0,1,0,0,1,1,0,0,1,3,3,0] mixed (by kernel_rfl) ?_
  have ba:∀wj,As [f0.drew.heap.size] f0.drew wj→AG f0.drew wj:=fun wj hj=>As.toExt hj (fun b hb=>Nat.le_of_eq (A9 hb).symm)
  have hkn:kk.toNat<T.code.length:=by omega
  have hro:=hxs kk.toNat oM
  have lh:=hro.1
  have hRk:=hsR kk.toNat oM
  have li:=hRk.1
  refine Jx.Ak (p:=zP w.heap.size) 1 EW Z Z Aa<|Jx.Z5 (p:=Ao (zP w.heap.size) 1) vtc JN Z (fun wj hj=>(BX.ext (w:=f0.drew) au<|ba wj hj).ldp (i:=1) sM) Aa<|Jx.V0 (zI kk) Z Aa<|Jx.Az (v:=vtc) ((kk).toNat) Oo IY Z Z htcT.isSl oM sD Aa ?_
  obtain⟨cs49,iu,iv⟩:=htcT.get B4 AD.zero (k:=(kk).toNat) sD
  obtain⟨rfl,av⟩:=MA iu
  refine Jx.Xm (p:=Ax vtc ((kk).toNat) 4) [zI<|(T.code.getD ((kk).toNat) AD.zero).op,zI<|(T.code.getD ((kk).toNat) AD.zero).a,zI<|(T.code.getD ((kk).toNat) AD.zero).b,zI<|(T.code.getD ((kk).toNat) AD.zero).num] EX Z (fun wj hj=>iv wj<|As.of_ext []<|cn.drew.trans<|ba wj hj) Z Aa<|Jx.Z5 (p:=zP w2.heap.size) vo KV Z (fun wj hj=>(BX.ext (w:=f0.drew) a8<|ba wj hj).ldp (i:=0) sM) Aa<|Jx.V0 (zI kk) Z Aa ?_
  refine Jx.Az (v:=vo) ((kk).toNat) BH B9 Z Z (hbl.done hSB).none.slL oM sD Aa ?_
  obtain⟨a9,iw,dl⟩:=hbl.getF (k:=(kk).toNat) sD
  have eh:=dl.lenL
  unfold maxLen at eh
  refine Jx.Z5 (p:=Ax vo ((kk).toNat) 1) a9 Bk Z (fun wj hj=>Bc (w:=f0.drew) (ba wj hj) iw) Aa ?_
  have lj:=au.lt
  have lk:=a8.lt
  have k2:f0.drew.heap.size=f0.heap.size:=rfl
  refine Jx.Zn<|Bp (z:=.agg #[zI 0,zI 0,zI 0,zI 0]) Ss Aa ?_
  intro fm ac ll dm
  refine Aj ?_
  replace ac:=ac.of_drew
  have k3:=ac.size
  have ei:=cn.trans ac
  have bk:=au.ext ac
  have bl:=a8.ext ac
  have lm:=hbl.ext ac
  have ln:=dl.ext g1 ac
  replace dm:BX fm.heap f0.drew.heap.size [zI 0,zI 0,zI 0,zI 0]:=dm
  refine Jx.aM (Bw (vs:=[zI<|(T.code.getD ((kk).toNat) AD.zero).op,zI<|(T.code.getD ((kk).toNat) AD.zero).a,zI<|(T.code.getD ((kk).toNat) AD.zero).b,zI<|(T.code.getD ((kk).toNat) AD.zero).num]) EX Z Z (by intro u hu;simp only[ze,z2,or_false]at hu;rcases hu with rfl|rfl|rfl|rfl <;> first|exact⟨rfl,rfl⟩) dm Z Z Aa fun f1 b7 lo a6=>?_)
  replace a6:BX f1.heap f0.drew.heap.size [zI ((T.code.getD ((kk).toNat) AD.zero).op),zI ((T.code.getD ((kk).toNat) AD.zero).a),zI ((T.code.getD ((kk).toNat) AD.zero).b),zI ((T.code.getD ((kk).toNat) AD.zero).num)]:=a6
  have ad:AG w f1:=b7.below ei (fun _ h=>zE h) ei.size
  have k4:fm.heap.size≤f1.heap.size:=b7.size
  have bm:=bk.chg b7 (zB ·)
  have az:=bl.chg b7 (zB ·)
  have ae:=hbl.ext<|b7.below ac (fun _ h=>zE h) ac.size
  have an:=dl.ext g1<|b7.below ac (fun _ h=>zE h) ac.size
  refine Aj ⟨b7,?_⟩
  refine Jx.Qq a9 Z Aa<|Jx.Aj<|aH [0,0] Z<|Mf [] [zP w2.heap.size] Z Z Aa<|Ac 1 Z<|aH [0,2] Z<|Ak (p:=zP f0.drew.heap.size) 0 KX Z Z Aa<|Ah (p:=Ao (zP f0.drew.heap.size) 0) (.inr Z) (zI<|(T.code.getD ((kk).toNat) AD.zero).op) AC Z (a6.ldp (i:=0) sM) Aa<|Aj<|A3<|aH [0,0] Z ?_
  by_cases ej:(T.code.getD ((kk).toNat) AD.zero).op=((3:Nat):Int)
  ·refine Al true Z Z (A5 ej) Aa<|Ac 1 Z<|Ag Z<|aH [0,0,2,0,4] Z ?_
   have hio:=(hform kk.toNat hkn).i2 oM
   have hra:=hxs (T.code.getD kk.toNat AD.zero).a.toNat oM
   have co:=hra.1
   have hRa:=hsR (T.code.getD kk.toNat AD.zero).a.toNat oM
   have hRb:=hsR (T.code.getD kk.toNat AD.zero).b.toNat oM
   have dn:=hRa.1
   have dp:=hRb.1
   refine Ad 1 Z<|Ak (p:=zP f0.drew.heap.size) 1 CH Z Z Aa<|Ah (p:=Ao (zP f0.drew.heap.size) 1) (.inr Z) (zI<|(T.code.getD ((kk).toNat) AD.zero).a) AC Z (a6.ldp (i:=1) sM) Aa<|Ad 1 Z ?_
   refine AB 231 [] [zP w2.heap.size] [zI<|(T.code.getD ((kk).toNat) AD.zero).a,a9,zP w2.heap.size] Z Z IX Aa (Bh _ ((T.code.getD ((kk).toNat) AD.zero).a) a9 (xs.getD ((kk).toNat) []) S w2.heap.size vo (xs) _ _ BO av.2.1 an.rd (az.ld (k:=0) sM) ae hSB (fun b hb=>zH<|c1 b hb) oM GA hra.2 GB) ?_
   rintro m3 fc ⟨rfl,bn,lp,cp⟩
   refine⟨_,rfl,?_⟩
   have k5:f1.heap.size≤fc.heap.size:=bn.size
   have ek:AG w fc:=bn.below ad (fun c hc=>A8 hwB (ae.low c hc)) ad.size
   have ix:=bm.chg bn fun hm=>by have:=ae.low _ hm;have:=hFl _ hm;omega
   have el:=az.chg bn fun hm=>cm hm
   have em:=a6.chg bn fun hm=>by have:=ae.low _ hm;have:=hFl _ hm;omega
   have en:=an.chg g1<|bn.sub fun b hb=>z1 _ hb
   have dq:C0 m (EF xs (T.code.getD kk.toNat AD.zero).a (xs.getD kk.toNat [])):=CP hxs oM
   have iy:(EF xs (T.code.getD kk.toNat AD.zero).a (xs.getD kk.toNat [])).length=T.code.length:=by rw[BL];exact hxl
   have hrb:=dq (T.code.getD kk.toNat AD.zero).b.toNat oM
   have dr:=hrb.1
   refine Aj<|Ab _ [0,0,2,0,4] Z<|Ad 1 Z<|Ak (p:=zP f0.drew.heap.size) 2 Cx Z Z Aa<|Ah (p:=Ao (zP f0.drew.heap.size) 2) (.inr Z) (zI<|(T.code.getD ((kk).toNat) AD.zero).b) AC Z (em.ldp (i:=2) sM) Aa<|Ad 1 Z ?_
   refine AB 231 [] [zP w2.heap.size] [zI<|(T.code.getD ((kk).toNat) AD.zero).b,a9,zP w2.heap.size] Z Z IX Aa (Bh _ ((T.code.getD ((kk).toNat) AD.zero).b) a9 (xs.getD ((kk).toNat) []) S w2.heap.size vo (EF xs ((T.code.getD ((kk).toNat) AD.zero).a)<|xs.getD ((kk).toNat) []) _ _ BO av.2.2.1 en.rd (el.ld (k:=0) sM) cp hSB (fun b hb=>zH<|c1 b hb) oM GA hrb.2 GB) ?_
   rintro m4 fo ⟨rfl,bo,iz,j0⟩
   refine⟨_,rfl,?_⟩
   have k6:fc.heap.size≤fo.heap.size:=bo.size
   have j1:AG w fo:=bo.below ek (fun c hc=>A8 hwB (cp.low c hc)) ek.size
   have j2:=ix.chg bo fun hm=>by have:=cp.low _ hm;have:=hFl _ hm;omega
   have j3:=el.chg bo fun hm=>cm hm
   have lq:=em.chg bo fun hm=>by have:=cp.low _ hm;have:=hFl _ hm;omega
   have lr:=en.chg g1<|bo.sub fun b hb=>z1 _ hb
   refine Aj<|Ab _ [0,0,0] Z<|Ad 1 Z<|BB (kk-((1:Nat):Int)) Z Z (Dp sD sD) Aa<|Ac 1 Z ?_
   have hbe:=j0
   exact⟨(kk-1,EF (EF xs ((T.code.getD ((kk).toNat) AD.zero).a) (xs.getD ((kk).toNat) [])) ((T.code.getD ((kk).toNat) AD.zero).b) (xs.getD ((kk).toNat) []),iz),_,rfl,zR,⟨j1,j2,j3,oM,hbe,JA,JB,Jz⟩,zD⟩
  refine Al false Z Z (A6 ej) Aa<|Ac 1 Z<|Ai Z<|aH [0,0] Z ?_
  by_cases eo:(T.code.getD ((kk).toNat) AD.zero).op=((4:Nat):Int)
  ·refine Al true Z Z (A5 eo) Aa<|Ac 1 Z<|Ag Z<|aH [0,0,2,0,4] Z ?_
   have hio:=(hform kk.toNat hkn).i2 oM
   have hra:=hxs (T.code.getD kk.toNat AD.zero).a.toNat oM
   have co:=hra.1
   have hRa:=hsR (T.code.getD kk.toNat AD.zero).a.toNat oM
   have hRb:=hsR (T.code.getD kk.toNat AD.zero).b.toNat oM
   have dn:=hRa.1
   have dp:=hRb.1
   refine Ad 1 Z<|Ak (p:=zP f0.drew.heap.size) 1 CH Z Z Aa<|Ah (p:=Ao (zP f0.drew.heap.size) 1) (.inr Z) (zI<|(T.code.getD ((kk).toNat) AD.zero).a) AC Z (a6.ldp (i:=1) sM) Aa<|Ad 1 Z ?_
   refine AB 231 [] [zP w2.heap.size] [zI<|(T.code.getD ((kk).toNat) AD.zero).a,a9,zP w2.heap.size] Z Z IX Aa (Bh _ ((T.code.getD ((kk).toNat) AD.zero).a) a9 (xs.getD ((kk).toNat) []) S w2.heap.size vo (xs) _ _ BO av.2.1 an.rd (az.ld (k:=0) sM) ae hSB (fun b hb=>zH<|c1 b hb) oM GA hra.2 GB) ?_
   rintro m5 fd ⟨rfl,bp,ls,j4⟩
   refine⟨_,rfl,?_⟩
   have k7:f1.heap.size≤fd.heap.size:=bp.size
   have j5:AG w fd:=bp.below ad (fun c hc=>A8 hwB (ae.low c hc)) ad.size
   have j6:=bm.chg bp fun hm=>by have:=ae.low _ hm;have:=hFl _ hm;omega
   have j7:=az.chg bp fun hm=>cm hm
   have ep:=a6.chg bp fun hm=>by have:=ae.low _ hm;have:=hFl _ hm;omega
   have eq:=an.chg g1<|bp.sub fun b hb=>z1 _ hb
   have dq:C0 m (EF xs (T.code.getD kk.toNat AD.zero).a (xs.getD kk.toNat [])):=CP hxs oM
   have iy:(EF xs (T.code.getD kk.toNat AD.zero).a (xs.getD kk.toNat [])).length=T.code.length:=by rw[BL];exact hxl
   have hrb:=dq (T.code.getD kk.toNat AD.zero).b.toNat oM
   have dr:=hrb.1
   refine Aj<|AQ _ [0,0,1,0,3,4] mixed (by kernel_rfl)<|Ad 1 Z<|Ak (p:=zP f0.drew.heap.size) 2 Cx Z Z Aa<|Ah (p:=Ao (zP f0.drew.heap.size) 2) (.inl Z) (zI<|(T.code.getD ((kk).toNat) AD.zero).b) AC Z (ep.ldp (i:=2) sM) Aa<|Ad 1 Z<|Au 187 [] [] [a9,zI ((1000002:Nat):Int)] Z Z Ma Aa (CW _ _ _ _ eq.rd oM Fi Fh oM) ?_
   rintro m6 ft ⟨cv,rfl,ao,aw⟩
   refine⟨_,rfl,ao,?_⟩
   replace ao:=ao.of_drew
   have k8:=ao.size
   have er:=j5.trans ao
   have cq:=j6.ext ao
   have bb:=j7.ext ao
   have cr:=ep.ext ao
   have ct:=j4.ext ao
   have j8:=eq.ext g1 ao
   replace aw:=aw.low (B':=fd.heap.size)<|A7 _
   refine AB 231 [] [zP w2.heap.size] [zI<|(T.code.getD ((kk).toNat) AD.zero).b,cv,zP w2.heap.size] Z Z IX Aa (Bh _ ((T.code.getD ((kk).toNat) AD.zero).b) cv (Ci (xs.getD ((kk).toNat) []) ((1000002:Nat):Int)) S w2.heap.size vo (EF xs ((T.code.getD ((kk).toNat) AD.zero).a)<|xs.getD ((kk).toNat) []) _ _ BO av.2.2.1 aw.rd1 (bb.ld (k:=0) sM) ct hSB (fun b hb=>zH<|c1 b hb) oM GA hrb.2 GB) ?_
   rintro m7 fp ⟨rfl,b8,j9,ja⟩
   refine⟨_,rfl,?_⟩
   have k9:ft.heap.size≤fp.heap.size:=b8.size
   have jb:AG w fp:=b8.below er (fun c hc=>A8 hwB (ct.low c hc)) er.size
   have es:=cq.chg b8 fun hm=>by have:=ct.low _ hm;have:=hFl _ hm;omega
   have et:=bb.chg b8 fun hm=>cm hm
   have ka:=cr.chg b8 fun hm=>by have:=ct.low _ hm;have:=hFl _ hm;omega
   have kb:=j8.chg g1<|b8.sub fun b hb=>z1 _ hb
   have kc:=aw.chg (o1) b8 fun c hc=>zH<|hFl c hc
   refine Aj<|Ab _ [0,0,0] Z<|Ad 1 Z<|BB (kk-((1:Nat):Int)) Z Z (Dp sD sD) Aa<|Ac 1 Z ?_
   have hbe:=ja
   exact⟨(kk-1,EF (EF xs ((T.code.getD ((kk).toNat) AD.zero).a) (xs.getD ((kk).toNat) [])) ((T.code.getD ((kk).toNat) AD.zero).b) (Ci (xs.getD ((kk).toNat) []) ((1000002:Nat):Int)),j9),_,rfl,zR,⟨jb,es,et,oM,hbe,JA,JB,Jz⟩,zD⟩
  refine Al false Z Z (A6 eo) Aa<|Ac 1 Z<|Ai Z<|aH [0,0] Z ?_
  by_cases cw:(T.code.getD ((kk).toNat) AD.zero).op=((5:Nat):Int)
  ·refine Al true Z Z (A5 cw) Aa<|Ac 1 Z<|Ag Z<|A0<|AQ _ [0,0,1,0,0,0,1,0,1,3,4] mixed (by kernel_rfl) ?_
   have hio:=(hform kk.toNat hkn).i2 oM
   have hra:=hxs (T.code.getD kk.toNat AD.zero).a.toNat oM
   have co:=hra.1
   have hRa:=hsR (T.code.getD kk.toNat AD.zero).a.toNat oM
   have hRb:=hsR (T.code.getD kk.toNat AD.zero).b.toNat oM
   have dn:=hRa.1
   have dp:=hRb.1
   refine Ad 1 Z<|Ak (p:=zP f0.drew.heap.size) 1 CH Z Z Aa<|Ah (p:=Ao (zP f0.drew.heap.size) 1) (.inl Z) (zI<|(T.code.getD ((kk).toNat) AD.zero).a) AC Z (a6.ldp (i:=1) sM) Aa<|Ad 2 Z<|Ak (p:=zP f0.drew.heap.size) 2 Cx Z Z Aa<|Ah (p:=Ao (zP f0.drew.heap.size) 2) (.inl Z) (zI<|(T.code.getD ((kk).toNat) AD.zero).b) AC Z (a6.ldp (i:=2) sM) Aa ?_
   refine Az (v:=vr) (((T.code.getD ((kk).toNat) AD.zero).b).toNat) BH B9 Z Z hR.slL oM sD Aa ?_
   obtain⟨cx,eu,cy⟩:=RN.getL (w:=w) g1 [] (k:=((T.code.getD ((kk).toNat) AD.zero).b).toNat) hR sD
   have ds:=cy.lenL
   unfold maxLen at ds
   refine Ah (p:=Ax vr (((T.code.getD ((kk).toNat) AD.zero).b).toNat) 1) (.inl Z) cx Bk Z (eu _<|As.of_ext [] ad.drew) Aa<|Au 179 [] [] [a9,cx] Z Z NN Aa (Db _ _ _ _ _ an.rd (cy.ext g1 ad.drew).rd Fi Fi Fh Fh) ?_
   rintro fu fe ⟨c8,rfl,a2,af⟩
   refine⟨_,rfl,a2,?_⟩
   replace a2:=a2.of_drew
   have jc:=a2.size
   have cz:=ad.trans a2
   have c9:=bm.ext a2
   have b0:=az.ext a2
   have ca:=a6.ext a2
   have bc:=ae.ext a2
   have ev:=an.ext g1 a2
   replace af:=af.low (B':=f1.heap.size)<|A7 _
   refine AB 231 [] [zP w2.heap.size] [zI<|(T.code.getD ((kk).toNat) AD.zero).a,c8,zP w2.heap.size] Z Z IX Aa (Bh _ ((T.code.getD ((kk).toNat) AD.zero).a) c8 (C5 (xs.getD ((kk).toNat) [])<|R.getD (((T.code.getD ((kk).toNat) AD.zero).b).toNat) []) S w2.heap.size vo (xs) _ _ BO av.2.1 af.rd1 (b0.ld (k:=0) sM) bc hSB (fun b hb=>zH<|c1 b hb) oM GA hra.2 GB) ?_
   rintro fv f2 ⟨rfl,ak,kd,ew⟩
   refine⟨_,rfl,?_⟩
   have jd:fe.heap.size≤f2.heap.size:=ak.size
   have cb:AG w f2:=ak.below cz (fun c hc=>A8 hwB (bc.low c hc)) cz.size
   have ex:=c9.chg ak fun hm=>by have:=bc.low _ hm;have:=hFl _ hm;omega
   have ey:=b0.chg ak fun hm=>cm hm
   have cc:=ca.chg ak fun hm=>by have:=bc.low _ hm;have:=hFl _ hm;omega
   have d0:=ev.chg g1<|ak.sub fun b hb=>z1 _ hb
   have ez:=af.chg (o1) ak fun c hc=>zH<|hFl c hc
   have dq:C0 m (EF xs (T.code.getD kk.toNat AD.zero).a (C5 (xs.getD kk.toNat []) (R.getD (T.code.getD kk.toNat AD.zero).b.toNat []))):=CP hxs oM
   have iy:(EF xs (T.code.getD kk.toNat AD.zero).a (C5 (xs.getD kk.toNat []) (R.getD (T.code.getD kk.toNat AD.zero).b.toNat []))).length=T.code.length:=by rw[BL];exact hxl
   have hrb:=dq (T.code.getD kk.toNat AD.zero).b.toNat oM
   have dr:=hrb.1
   refine Aj<|AQ _ [0,0,1,0,0,0,1,0,1,3,4] mixed (by kernel_rfl)<|Ad 1 Z<|Ak (p:=zP f0.drew.heap.size) 2 Cx Z Z Aa<|Ah (p:=Ao (zP f0.drew.heap.size) 2) (.inl Z) (zI<|(T.code.getD ((kk).toNat) AD.zero).b) AC Z (cc.ldp (i:=2) sM) Aa<|Ad 2 Z<|Ak (p:=zP f0.drew.heap.size) 1 CH Z Z Aa<|Ah (p:=Ao (zP f0.drew.heap.size) 1) (.inl Z) (zI<|(T.code.getD ((kk).toNat) AD.zero).a) AC Z (cc.ldp (i:=1) sM) Aa ?_
   refine Az (v:=vr) (((T.code.getD ((kk).toNat) AD.zero).a).toNat) BH B9 Z Z hR.slL oM sD Aa ?_
   obtain⟨d1,g0,d2⟩:=RN.getL (w:=w) g1 [] (k:=((T.code.getD ((kk).toNat) AD.zero).a).toNat) hR sD
   have dt:=d2.lenL
   unfold maxLen at dt
   refine Ah (p:=Ax vr (((T.code.getD ((kk).toNat) AD.zero).a).toNat) 1) (.inl Z) d1 Bk Z (g0 _<|As.of_ext [] cb.drew) Aa<|Au 179 [] [] [a9,d1] Z Z NN Aa (Db _ _ _ _ _ d0.rd (d2.ext g1 cb.drew).rd Fi Fi Fh Fh) ?_
   rintro fw ff ⟨cd,rfl,a0,ag⟩
   refine⟨_,rfl,a0,?_⟩
   replace a0:=a0.of_drew
   have je:=a0.size
   have d3:=cb.trans a0
   have bq:=ex.ext a0
   have aq:=ey.ext a0
   have br:=cc.ext a0
   have bs:=ez.ext (o1) a0
   have bd:=ew.ext a0
   have g2:=d0.ext g1 a0
   replace ag:=ag.low (B':=f2.heap.size)<|A7 _
   refine AB 231 [] [zP w2.heap.size] [zI<|(T.code.getD ((kk).toNat) AD.zero).b,cd,zP w2.heap.size] Z Z IX Aa (Bh _ ((T.code.getD ((kk).toNat) AD.zero).b) cd (C5 (xs.getD ((kk).toNat) [])<|R.getD (((T.code.getD ((kk).toNat) AD.zero).a).toNat) []) S w2.heap.size vo (EF xs ((T.code.getD ((kk).toNat) AD.zero).a)<|C5 (xs.getD ((kk).toNat) [])<|R.getD (((T.code.getD ((kk).toNat) AD.zero).b).toNat) []) _ _ BO av.2.2.1 ag.rd1 (aq.ld (k:=0) sM) bd hSB (fun b hb=>zH<|c1 b hb) oM GA hrb.2 GB) ?_
   rintro fx f6 ⟨rfl,aa,g3,g4⟩
   refine⟨_,rfl,?_⟩
   have jf:ff.heap.size≤f6.heap.size:=aa.size
   have g5:AG w f6:=aa.below d3 (fun c hc=>A8 hwB (bd.low c hc)) d3.size
   have g6:=bq.chg aa fun hm=>by have:=bd.low _ hm;have:=hFl _ hm;omega
   have g7:=aq.chg aa fun hm=>cm hm
   have ke:=br.chg aa fun hm=>by have:=bd.low _ hm;have:=hFl _ hm;omega
   have kf:=g2.chg g1<|aa.sub fun b hb=>z1 _ hb
   have kg:=bs.chg (o1) aa fun c hc=>zH<|hFl c hc
   have kh:=ag.chg (o1) aa fun c hc=>zH<|hFl c hc
   refine Aj<|Ab _ [0,0,0] Z<|Ad 1 Z<|BB (kk-((1:Nat):Int)) Z Z (Dp sD sD) Aa<|Ac 1 Z ?_
   have hbe:=g4
   exact⟨(kk-1,EF (EF xs ((T.code.getD ((kk).toNat) AD.zero).a) (C5 (xs.getD ((kk).toNat) []) (R.getD (((T.code.getD ((kk).toNat) AD.zero).b).toNat) []))) ((T.code.getD ((kk).toNat) AD.zero).b) (C5 (xs.getD ((kk).toNat) []) (R.getD (((T.code.getD ((kk).toNat) AD.zero).a).toNat) [])),g3),_,rfl,zR,⟨g5,g6,g7,oM,hbe,JA,JB,Jz⟩,zD⟩
  refine Al false Z Z (A6 cw) Aa<|Ac 1 Z<|Ai Z<|aH [0,0] Z ?_
  by_cases d4:(T.code.getD ((kk).toNat) AD.zero).op=((6:Nat):Int)
  ·refine Al true Z Z (A5 d4) Aa<|Ac 1 Z<|Ag Z<|aH [0,0,0,2,0,2,3,0] Z ?_
   have hio:=(hform kk.toNat hkn).i2 oM
   have hra:=hxs (T.code.getD kk.toNat AD.zero).a.toNat oM
   have co:=hra.1
   have hRa:=hsR (T.code.getD kk.toNat AD.zero).a.toNat oM
   have hRb:=hsR (T.code.getD kk.toNat AD.zero).b.toNat oM
   have dn:=hRa.1
   have dp:=hRb.1
   refine Ad 2 Z<|Ak (p:=zP f0.drew.heap.size) 2 Cx Z Z Aa<|Ah (p:=Ao (zP f0.drew.heap.size) 2) (.inr Z) (zI<|(T.code.getD ((kk).toNat) AD.zero).b) AC Z (a6.ldp (i:=2) sM) Aa<|Az (v:=vr) (((T.code.getD ((kk).toNat) AD.zero).b).toNat) BH B9 Z Z hR.slL oM sD Aa ?_
   obtain⟨d5,g8,d6⟩:=RN.getL (w:=w) g1 [] (k:=((T.code.getD ((kk).toNat) AD.zero).b).toNat) hR sD
   have du:=d6.lenL
   unfold maxLen at du
   refine Ah (p:=Ax vr (((T.code.getD ((kk).toNat) AD.zero).b).toNat) 1) (.inr Z) d5 Bk Z (g8 _<|As.of_ext [] ad) Aa<|Au 177 [] [] [a9,d5] Z Z Sj Aa (Ew _ _ _ _ _ an.rd (d6.ext g1 ad).rd Fi Fi oM Fh Fh) ?_
   rintro fy fg ⟨b9,rfl,ab,be⟩
   refine⟨_,rfl,ab,?_⟩
   have jg:=ab.size
   have d7:=ad.trans ab
   have ce:=bm.ext ab
   have b1:=az.ext ab
   have b2:=a6.ext ab
   have bf:=ae.ext ab
   have g9:=an.ext g1 ab
   refine Ac 1 Z<|aH [0,0,2,0,4] Z<|Ad 1 Z<|Ak (p:=zP f0.drew.heap.size) 1 CH Z Z Aa<|Ah (p:=Ao (zP f0.drew.heap.size) 1) (.inr Z) (zI<|(T.code.getD ((kk).toNat) AD.zero).a) AC Z (b2.ldp (i:=1) sM) Aa<|Ad 1 Z ?_
   refine AB 231 [] [zP w2.heap.size] [zI<|(T.code.getD ((kk).toNat) AD.zero).a,b9,zP w2.heap.size] Z Z IX Aa (Bh _ ((T.code.getD ((kk).toNat) AD.zero).a) b9 (BP (xs.getD ((kk).toNat) [])<|R.getD (((T.code.getD ((kk).toNat) AD.zero).b).toNat) []) S w2.heap.size vo (xs) _ _ BO av.2.1 be.rd1 (b1.ld (k:=0) sM) bf hSB (fun b hb=>zH<|c1 b hb) oM GA hra.2 GB) ?_
   rintro fz f3 ⟨rfl,al,ki,ga⟩
   refine⟨_,rfl,?_⟩
   have jh:fg.heap.size≤f3.heap.size:=al.size
   have cf:AG w f3:=al.below d7 (fun c hc=>A8 hwB (bf.low c hc)) d7.size
   have gb:=ce.chg al fun hm=>by have:=bf.low _ hm;have:=hFl _ hm;omega
   have gc:=b1.chg al fun hm=>cm hm
   have d8:=b2.chg al fun hm=>by have:=bf.low _ hm;have:=hFl _ hm;omega
   have gd:=g9.chg g1<|al.sub fun b hb=>z1 _ hb
   have d9:=be.chg (o1) al fun c hc=>zH<|hFl c hc
   have dq:C0 m (EF xs (T.code.getD kk.toNat AD.zero).a (BP (xs.getD kk.toNat []) (R.getD (T.code.getD kk.toNat AD.zero).b.toNat []))):=CP hxs oM
   have iy:(EF xs (T.code.getD kk.toNat AD.zero).a (BP (xs.getD kk.toNat []) (R.getD (T.code.getD kk.toNat AD.zero).b.toNat []))).length=T.code.length:=by rw[BL];exact hxl
   have hrb:=dq (T.code.getD kk.toNat AD.zero).b.toNat oM
   have dr:=hrb.1
   refine Aj<|AQ _ [0,0,1,0,0,0,0,1,3,3,4] mixed (by kernel_rfl)<|Ad 1 Z<|Ak (p:=zP f0.drew.heap.size) 2 Cx Z Z Aa<|Ah (p:=Ao (zP f0.drew.heap.size) 2) (.inl Z) (zI<|(T.code.getD ((kk).toNat) AD.zero).b) AC Z (d8.ldp (i:=2) sM) Aa<|Ad 3 Z ?_
   refine Az (v:=vr) ((kk).toNat) BH B9 Z Z hR.slL oM sD Aa ?_
   obtain⟨da,ge,db⟩:=RN.getL (w:=w) g1 [] (k:=(kk).toNat) hR sD
   have dv:=db.lenL
   unfold maxLen at dv
   refine Ah (p:=Ax vr ((kk).toNat) 1) (.inl Z) da Bk Z (ge _<|As.of_ext [] cf.drew) Aa<|Au 179 [] [] [b9,da] Z Z NN Aa (Db _ _ _ _ _ d9.rd1 (db.ext g1 cf.drew).rd Fi Fi Fh Fh) ?_
   rintro lv lw ⟨dw,rfl,a1,ah⟩
   refine⟨_,rfl,a1,?_⟩
   replace a1:=a1.of_drew
   have ji:=a1.size
   have gf:=cf.trans a1
   have bt:=gb.ext a1
   have bu:=gc.ext a1
   have bv:=d8.ext a1
   have bw:=d9.ext (o1) a1
   have gg:=ga.ext a1
   have gh:=gd.ext g1 a1
   replace ah:=ah.low (B':=f3.heap.size)<|A7 _
   refine Au 187 [] [] [dw,zI ((1000002:Nat):Int)] Z Z Ma Aa (CW _ _ _ _ ah.rd1 oM Fi Fh oM) ?_
   rintro lx fh ⟨cg,rfl,a3,bg⟩
   refine⟨_,rfl,a3,?_⟩
   have jj:=a3.size
   have dc:=gf.trans a3
   have bx:=bt.ext a3
   have ar:=bu.ext a3
   have bz:=bv.ext a3
   have c0:=bw.ext (o1) a3
   have b3:=ah.ext (o1) a3
   have bh:=gg.ext a3
   have gi:=gh.ext g1 a3
   refine AB 231 [] [zP w2.heap.size] [zI<|(T.code.getD ((kk).toNat) AD.zero).b,cg,zP w2.heap.size] Z Z IX Aa (Bh _ ((T.code.getD ((kk).toNat) AD.zero).b) cg (Ci (C5 (BP (xs.getD ((kk).toNat) [])<|R.getD (((T.code.getD ((kk).toNat) AD.zero).b).toNat) [])<|R.getD ((kk).toNat) []) ((1000002:Nat):Int)) S w2.heap.size vo (EF xs ((T.code.getD ((kk).toNat) AD.zero).a)<|BP (xs.getD ((kk).toNat) [])<|R.getD (((T.code.getD ((kk).toNat) AD.zero).b).toNat) []) _ _ BO av.2.2.1 bg.rd1 (ar.ld (k:=0) sM) bh hSB (fun b hb=>zH<|c1 b hb) oM GA hrb.2 GB) ?_
   rintro ly f7 ⟨rfl,a7,gj,gk⟩
   refine⟨_,rfl,?_⟩
   have jk:fh.heap.size≤f7.heap.size:=a7.size
   have gl:AG w f7:=a7.below dc (fun c hc=>A8 hwB (bh.low c hc)) dc.size
   have gm:=bx.chg a7 fun hm=>by have:=bh.low _ hm;have:=hFl _ hm;omega
   have gn:=ar.chg a7 fun hm=>cm hm
   have kj:=bz.chg a7 fun hm=>by have:=bh.low _ hm;have:=hFl _ hm;omega
   have kl:=gi.chg g1<|a7.sub fun b hb=>z1 _ hb
   have km:=c0.chg (o1) a7 fun c hc=>zH<|hFl c hc
   have kn:=b3.chg (o1) a7 fun c hc=>zH<|hFl c hc
   have ko:=bg.chg (o1) a7 fun c hc=>zH<|hFl c hc
   refine Aj<|Ab _ [0,0,0] Z<|Ad 1 Z<|BB (kk-((1:Nat):Int)) Z Z (Dp sD sD) Aa<|Ac 1 Z ?_
   have hbe:=gk
   exact⟨(kk-1,EF (EF xs ((T.code.getD ((kk).toNat) AD.zero).a) (BP (xs.getD ((kk).toNat) []) (R.getD (((T.code.getD ((kk).toNat) AD.zero).b).toNat) []))) ((T.code.getD ((kk).toNat) AD.zero).b) (Ci (C5 (BP (xs.getD ((kk).toNat) []) (R.getD (((T.code.getD ((kk).toNat) AD.zero).b).toNat) [])) (R.getD ((kk).toNat) [])) ((1000002:Nat):Int)),gj),_,rfl,zR,⟨gl,gm,gn,oM,hbe,JA,JB,Jz⟩,zD⟩
  refine Al false Z Z (A6 d4) Aa<|Ac 1 Z<|Ai Z<|aH [0,0] Z ?_
  by_cases dd:(T.code.getD ((kk).toNat) AD.zero).op=((7:Nat):Int)
  ·refine Al true Z Z (A5 dd) Aa<|Ac 1 Z<|Ag Z<|AQ _ [0,0,1,0,3,4] mixed (by kernel_rfl) ?_
   have hio:=(hform kk.toNat hkn).i7 oM
   have hra:=hxs (T.code.getD kk.toNat AD.zero).a.toNat oM
   have co:=hra.1
   refine Ad 1 Z<|Ak (p:=zP f0.drew.heap.size) 1 CH Z Z Aa<|Ah (p:=Ao (zP f0.drew.heap.size) 1) (.inl Z) (zI<|(T.code.getD ((kk).toNat) AD.zero).a) AC Z (a6.ldp (i:=1) sM) Aa<|Ad 1 Z<|Au 187 [] [] [a9,zI ((1000002:Nat):Int)] Z Z Ma Aa (CW _ _ _ _ an.rd oM Fi Fh oM) ?_
   rintro lz fi ⟨ch,rfl,a4,ai⟩
   refine⟨_,rfl,a4,?_⟩
   replace a4:=a4.of_drew
   have jl:=a4.size
   have de:=ad.trans a4
   have ci:=bm.ext a4
   have b4:=az.ext a4
   have cj:=a6.ext a4
   have bi:=ae.ext a4
   have go:=an.ext g1 a4
   replace ai:=ai.low (B':=f1.heap.size)<|A7 _
   refine AB 231 [] [zP w2.heap.size] [zI<|(T.code.getD ((kk).toNat) AD.zero).a,ch,zP w2.heap.size] Z Z IX Aa (Bh _ ((T.code.getD ((kk).toNat) AD.zero).a) ch (Ci (xs.getD ((kk).toNat) []) ((1000002:Nat):Int)) S w2.heap.size vo (xs) _ _ BO av.2.1 ai.rd1 (b4.ld (k:=0) sM) bi hSB (fun b hb=>zH<|c1 b hb) oM GA hra.2 GB) ?_
   rintro m0 f8 ⟨rfl,am,gp,gq⟩
   refine⟨_,rfl,?_⟩
   have jm:fi.heap.size≤f8.heap.size:=am.size
   have gr:AG w f8:=am.below de (fun c hc=>A8 hwB (bi.low c hc)) de.size
   have gs:=ci.chg am fun hm=>by have:=bi.low _ hm;have:=hFl _ hm;omega
   have gt:=b4.chg am fun hm=>cm hm
   have kp:=cj.chg am fun hm=>by have:=bi.low _ hm;have:=hFl _ hm;omega
   have kq:=go.chg g1<|am.sub fun b hb=>z1 _ hb
   have kr:=ai.chg (o1) am fun c hc=>zH<|hFl c hc
   refine Aj<|Ab _ [0,0,0] Z<|Ad 1 Z<|BB (kk-((1:Nat):Int)) Z Z (Dp sD sD) Aa<|Ac 1 Z ?_
   have hbe:=gq
   exact⟨(kk-1,EF xs ((T.code.getD ((kk).toNat) AD.zero).a) (Ci (xs.getD ((kk).toNat) []) ((1000002:Nat):Int)),gp),_,rfl,zR,⟨gr,gs,gt,oM,hbe,JA,JB,Jz⟩,zD⟩
  refine Al false Z Z (A6 dd) Aa<|Ac 1 Z<|Ai Z<|A2<|Ab _ [0,0,0] Z<|Ad 1 Z ?_
  refine BB (kk-((1:Nat):Int)) Z Z (Dp sD sD) Aa<|Ac 1 Z ?_
  have hbe:=ae
  exact⟨(kk-1,xs,us),_,rfl,zR,⟨ad,bm,az,oM,hbe,JA,JB,Jz⟩,zD⟩
 refine Fp false Z Z (A6 eg) Aa<|Aj<|Ai Z<|A4<|Av<|Av<|Aq<|aH [2,0] Z<|Ah (p:=zP w2.heap.size) (.inr Z) vo KV Z (a8.ld (k:=0) sM) Aa<|Ac 1 Z<|A1 ?_
 have hfin:xs=IS T.code R oT ws:=by have h9:=hadj;rw[show(kk+1).toNat=0 from by omega,gw]at h9;exact h9
 exact Af [6] Z vo Z ⟨_,rfl,cn,(by rw[← hfin];exact(hbl.done hSB)),hbl.cap⟩
theorem Hn (w:World)(m:Nat)(ni:Nat)(S:List Nat)(ipT:Int)(vtc vtg vtx:Value)(T:Tp)(oT:Sr)(vl:Value)(L:List (Sr))(b5:∀b∈S,b<w.heap.size)(_hipT:Bt ipT)(htcT:RN [] (Dw 4 No) w.heap vtc T.code)(htgT:RN [] (Dw 2 Np) w.heap vtg T.grd)(htoT:RN [] (AX rI) w.heap vtx oT)(hL:RN [] (AX (AX rI)) w.heap vl L)(hqL:C8 vl)(hm:1≤m∧m≤13)(hni:ipT=(ni:Int)∧ni≤1000)(hsL:C0 m L)(hlL:L.length=T.code.length∧0<L.length)(hlt:T.code.length≤4000)(hform:∀k,k<T.code.length→Es ni k (T.code.getD k AD.zero)) :
  Calls Tryz.prog 107 #[(.agg #[(zI ipT),vtc,vtg,vtx]),vl] w (fun e w'=>∃v0:Value,e=.returned v0∧AG w w'∧RN S (AX (AX rI)) w'.heap v0 (TD ni m T.code L)∧C8 v0):=by
 refine Ap [.agg #[zI ipT,vtc,vtg,vtx],vl] 54 Tryz.func107 Z Z sM ?_
 have bt:AG w w:=AG.refl w
 have hl_vtx:=htoT.lenL
 unfold maxLen at hl_vtx
 have cz:=hL.lenL
 unfold maxLen at cz
 have bu:=hsL 0 oM
 have c9:=bu.1
 refine aH [3,0] Z (Bu (cs:=#[zI ipT,vtc,vtg,vtx]) Z Aa fun w1 b6 ca b7=>?_)
 have b8:=b6.size
 have b9:=bt.trans b6
 replace b7:BX w1.heap w.heap.size [zI ipT,vtc,vtg,vtx]:=b7
 refine Ac 1 Z<|aH [3,0,0] Z (Ch (Bi rI 2) o1 BH B9 Aa fun v2 w2 b2 cb bv=>?_)
 have ba:=b2.size
 have bb:=b9.trans b2
 have ai:=b7.ext b2
 refine Ac 2 Z<|A0<|aH [0,0,0] Z<|Ad 1 Z<|AO (v:=vl) BH Z hL.slL Aa ?_
 have cc:((0:Nat):Int)<(L.length:Int):=oM
 refine BN true Z Z (A5 cc) Aa<|Aj<|Ag Z<|Ab _ [0,0,2,0,0] Z<|Ad 1 Z<|Az (v:=vl) 0 BH B9 Z Z hL.slL Z sD Aa ?_
 obtain⟨bw,cd,bx⟩:=RN.getL (w:=w) g1 [] (k:=0) hL sD
 have ao:=bx.lenL
 unfold maxLen at ao
 refine Ah (p:=Ax vl 0 1) (.inr Z) bw Bk Z (cd _<|As.of_ext [] bb) Aa<|AO (v:=bw) Bj Z bx.slL Aa<|Ac 1 Z<|A0<|aH [0,2,0] Z<|Ak (p:=zP w.heap.size) 0 MF Z Z Aa<|Ah (p:=Ao (zP w.heap.size) 0) (.inr Z) (zI ipT) AC Z (ai.ldp (i:=0) sM) Aa<|Ac 1 Z<|A3 ?_
 refine AW (S:=Nat×Value) (fun⟨k,vo⟩=>([(5,vo),(19,zI (k:Int)),(1,vl),(2,zP w.heap.size),(6,zI (((L.getD 0 []).length:Nat):Int)),(18,zI ipT)])) (fun⟨k,vo⟩ W=>AG w W∧Fr (Bi (Bi rI 2) 27) w1.heap.size W.heap.size W.heap vo (List.replicate k<|List.replicate m 0)∧BX W.heap w.heap.size [zI ipT,vtc,vtg,vtx]∧k≤ni∧w.heap.size<w1.heap.size∧w1.heap.size≤W.heap.size) (fun⟨k,vo⟩=>ni-k) (0,v2) ⟨rfl,rfl,rfl,rfl,rfl,rfl,trivial⟩ ⟨bb,bv.up o2,ai,oM,oM,oM⟩ ?_
 clear bt bu ca b6 bv cb b2 ba bb ao
 rintro⟨k,vo⟩ ρ6 w6 ⟨b3,a4,a2,bz,ce,cf⟩
 have bc:w.heap.size≤w6.heap.size:=b3.size
 have cx:=a2.lt
 refine aH [0] Z ?_
 by_cases c0:(k:Int)<ipT
 ·refine AE true Z Z (A5 c0) Aa<|Aj<|A0<|Ag Z<|A2<|A0<|A3<|Ab _ [0,0,3,3,4,0] Z<|Ad 2 Z (EL (n:=(L.getD 0 []).length) Bj Bz Z Z Z sD Aa fun d5 da ab cg bd=>?_)
  have c1:=ab.size
  have be:=b3.trans ab
  have a5:=a4.ext (o2) ab
  have a6:=a2.ext ab
  refine BI (u:=d5) (B:=w6.heap.size) o1 BH B9 Z Z bd (by first|exact A7 _|omega) Aa fun d6 d7 ac ch bf=>?_
  have c2:=ac.size
  have ap:=be.trans ac
  have a7:=a5.ext (o2) ac
  have a8:=a6.ext ac
  refine I0 o1 (v:=vo) (a:=d6) BH B9 Z Z Z a7 oM bf oM oM sD (by unfold maxLen;first|omega|assumption|(simp;done)|(simp;omega)) Aa fun d8 d1 db ak aq bg=>?_
  have bh:AG w d1:=ak.below ap (fun c hc=>A8 b9.size (aq c hc).1) ap.size
  have c3:d7.heap.size≤d1.heap.size:=ak.size
  have bi:=a8.chg ak fun hm=>zH<|aq _ hm
  exact Ac 1 Z<|Ab _ [0,0] Z<|AN ((k+1:Nat):Int) Z Z (Be oM oM) Aa<|Ac 1 Z ⟨(k+1,d8),_,rfl,zR,⟨bh,(by have h:=bg.up o2;rw[c9,← List.replicate_succ']at h;exact h),bi,oM,oM,oM⟩,zD⟩
 refine AE false Z Z (A6 c0) Aa<|Aj<|A0<|Ai Z<|A4<|Av<|Av<|Aq<|A0<|aH [0,2,0,0] Z ?_
 have hOw:=a4
 rw[show k=ni from by omega]at hOw
 obtain⟨ci,F0,bj,cj⟩:=GR.ofFr (S:=S) hOw (fun b hb=>zH<|b5 b hb)
 obtain⟨BO,hBO⟩:∃b:Nat,b=w1.heap.size:=⟨_,rfl⟩
 rw[← hBO]at bj
 have hwB:w.heap.size≤BO:=by omega
 have hSB:∀b∈S,b<BO:=fun b hb=>zH<|b5 b hb
 obtain⟨B0,b4⟩:∃l:List Sr,l=(List.replicate ni (List.replicate m 0)):=⟨_,rfl⟩
 rw[← b4]at bj
 have ck:C0 m B0:=by rw[b4];exact IT m ni
 have bk:B0.length=ni:=by rw[b4,z5]
 refine Ak (p:=zP w.heap.size) 1 EW Z Z Aa<|Ah (p:=Ao (zP w.heap.size) 1) (.inr Z) vtc JN Z (a2.ldp (i:=1) sM) Aa<|AO (v:=vtc) Oo Z htcT.isSl Aa<|Ac 1 Z<|A3<|AW (S:=Nat×List Value) (fun⟨j,us⟩=>([(30,zI (j:Int)),(1,vl),(5,vo),(28,vtc),(29,zI (T.code.length:Int))])) (fun⟨j,us⟩ W=>AG w W∧j≤T.code.length∧GR 27 S BO W.heap vo (Qc T.code L j B0) us F0) (fun⟨j,us⟩=>T.code.length-j) (0,ci) ⟨rfl,rfl,rfl,rfl,rfl,trivial⟩ ⟨b3,oM,bj⟩ ?_
 clear b8 b9 a2 a4 b3 bc cj
 rintro⟨j,us⟩ ρ14 cy ⟨ad,bl,hbl⟩
 have c4:w.heap.size≤cy.heap.size:=ad.size
 have hFl:∀b∈F0,b<cy.heap.size:=hbl.lt
 refine aH [0] Z ?_
 by_cases ar:(j:Int)<(T.code.length:Int)
 ·refine AE true Z Z (A5 ar) Aa<|Aj<|A0<|Ag Z<|A2<|A0<|A3<|aH [0,0,2,3,0,4] Z ?_
  have hjk:j<T.code.length:=by omega
  refine Ad 1 Z<|Az (v:=vtc) j Oo IY Z Z htcT.isSl Z sD Aa ?_
  obtain⟨cs16,bm,bn⟩:=htcT.get B4 AD.zero (k:=j) sD
  obtain⟨rfl,cl⟩:=MA bm
  refine AL (p:=Ax vtc j 4) (.inr Z) [zI<|(T.code.getD j AD.zero).op,zI<|(T.code.getD j AD.zero).a,zI<|(T.code.getD j AD.zero).b,zI<|(T.code.getD j AD.zero).num] EX Z (fun d9 cm=>bn d9<|As.of_ext []<|ad.trans cm) Z Aa (Bp (z:=.agg #[zI 0,zI 0,zI 0,zI 0]) Ss Aa fun d2 a9 cn al=>?_)
  have c5:=a9.size
  have au:=ad.trans a9
  have co:=hbl.ext a9
  replace al:BX d2.heap cy.heap.size [zI 0,zI 0,zI 0,zI 0]:=al
  refine Ad 1 Z (Bw (vs:=[zI<|(T.code.getD j AD.zero).op,zI<|(T.code.getD j AD.zero).a,zI<|(T.code.getD j AD.zero).b,zI<|(T.code.getD j AD.zero).num]) EX Z Z (by intro u hu;simp only[ze,z2,or_false]at hu;rcases hu with rfl|rfl|rfl|rfl <;> first|exact⟨rfl,rfl⟩) al Z Z Aa fun d0 am cp a3=>?_)
  replace a3:BX d0.heap cy.heap.size [zI ((T.code.getD j AD.zero).op),zI ((T.code.getD j AD.zero).a),zI ((T.code.getD j AD.zero).b),zI ((T.code.getD j AD.zero).num)]:=a3
  have ae:AG w d0:=am.below au (fun _ h=>zE h) au.size
  have c6:d2.heap.size≤d0.heap.size:=am.size
  have af:=hbl.ext<|am.below a9 (fun _ h=>zE h) a9.size
  refine Aj<|aH [0,2,0] Z<|Ak (p:=zP cy.heap.size) 0 KX Z Z Aa<|Ah (p:=Ao (zP cy.heap.size) 0) (.inr Z) (zI<|(T.code.getD j AD.zero).op) AC Z (a3.ldp (i:=0) sM) Aa ?_
  by_cases av:(T.code.getD j AD.zero).op=((1:Nat):Int)
  ·refine Al true Z Z (A5 av) Aa<|Aj<|Ag Z<|AQ _ [0,0,1,0,0,1,0,1,0,0,0,1,3,0,4] mixed (by kernel_rfl) ?_
   have hio:=(hform j hjk).i1 oM
   have hra:=Ki (cs:=T.code) (L:=L) (B:=B0) (fun q hq=>by rw[bk];exact hform q hq) ck j oM (T.code.getD j AD.zero).num.toNat (by rw[HC,bk];omega)
   have cq:=hra.1
   have hLj:=hsL j oM
   have cr:=hLj.1
   have hbn:(Qc T.code L j B0).length=ni:=by rw[HC,bk]
   refine Ad 1 Z<|Ak (p:=zP cy.heap.size) 3 EY Z Z Aa<|Ah (p:=Ao (zP cy.heap.size) 3) (.inl Z) (zI<|(T.code.getD j AD.zero).num) AC Z (a3.ldp (i:=3) sM) Aa<|Ad 1 Z<|Ak (p:=zP cy.heap.size) 3 EY Z Z Aa<|Ah (p:=Ao (zP cy.heap.size) 3) (.inl Z) (zI<|(T.code.getD j AD.zero).num) AC Z (a3.ldp (i:=3) sM) Aa ?_
   refine Az (v:=vo) (((T.code.getD j AD.zero).num).toNat) BH B9 Z Z (af.done hSB).none.slL oM sD Aa ?_
   obtain⟨aw,bo,an⟩:=af.getF (k:=((T.code.getD j AD.zero).num).toNat) sD
   have ax:=an.lenL
   unfold maxLen at ax
   refine Ah (p:=Ax vo (((T.code.getD j AD.zero).num).toNat) 1) (.inl Z) aw Bk Z bo Aa<|Ad 2 Z<|Az (v:=vl) j BH B9 Z Z hL.slL Z sD Aa ?_
   obtain⟨ay,bp,az⟩:=RN.getL (w:=w) g1 [] (k:=j) hL sD
   have b0:=az.lenL
   unfold maxLen at b0
   refine Ah (p:=Ax vl j 1) (.inl Z) ay Bk Z (bp _<|As.of_ext [] ae.drew) Aa<|Au 185 [] [] [aw,ay] Z Z NO Aa (DS _ _ _ _ _ an.rd (az.ext g1 ae.drew).rd oM oM hra.2 hLj.2) ?_
   rintro dc d3 ⟨aj,rfl,a1,a0⟩
   refine⟨_,rfl,a1,?_⟩
   replace a1:=a1.of_drew
   have c7:=a1.size
   have b1:=ae.trans a1
   have ag:=a3.ext a1
   have ah:=af.ext a1
   have bq:=an.ext g1 a1
   replace a0:=a0.low (B':=d0.heap.size)<|A7 _
   refine Az (v:=vo) (((T.code.getD j AD.zero).num).toNat) BH B9 Z Z (ah.done hSB).none.slL oM sD Aa ?_
   refine S0 (v:=vo) (u:=aj) (w:=d3) On Z Z ah (RN.of_fr1 a0 fun b hb=>by rcases zi.1 hb with hb|hb;(have:=b5 b hb;omega);(have:=hFl b hb;omega)) sD Aa fun d4 aa ct br=>?_
   have c8:d3.heap.size≤d4.heap.size:=aa.size
   have bs:AG w d4:=aa.below b1 (fun c hc=>A8 hwB (ah.low c hc)) b1.size
   have cu:=ag.chg aa fun hm=>by have:=ah.low _ hm;have:=hFl _ hm;omega
   have cv:=bq.chg g1<|aa.sub fun b hb=>z1 _ hb
   have cw:=a0.chg (o1) aa fun c hc=>zH<|hFl c hc
   refine Aj<|Ab _ [0,0] Z<|AN ((j+1:Nat):Int) Z Z (Be oM sD) Aa<|Ac 1 Z ?_
   have hbe:=br
   exact⟨(j+1,us.set (((T.code.getD j AD.zero).num).toNat) aj),_,rfl,zR,⟨bs,oM,(by first|(rw[KP oM];exact hbe)|(rw[KQ oM];exact hbe))⟩,zD⟩
  refine Al false Z Z (A6 av) Aa<|Aj<|Ai Z<|A2<|Ab _ [0,0] Z<|AN ((j+1:Nat):Int) Z Z (Be oM sD) Aa<|Ac 1 Z ?_
  have hbe:=af
  exact⟨(j+1,us),_,rfl,zR,⟨ae,oM,(by first|(rw[KP oM];exact hbe)|(rw[KQ oM];exact hbe))⟩,zD⟩
 exact AE false Z Z (A6 ar) Aa<|Aj<|A0<|Ai Z<|A4<|Av<|Av<|Aq<|aH [0,0] Z<|Ac 2 Z<|A1<|Af [4] Z vo Z ⟨_,rfl,ad,(by have h9:=(hbl.done hSB);rw[show j=T.code.length from by omega,b4]at h9;exact h9),hbl.cap⟩
theorem Iu (w:World)(r:Int)(vm:Nat)(m:Int)(_hr:Bt r)(hcm:GE w.heap (zP vm)=some (zI m))(_hm:Bt m)(hm:0≤m∧m≤1000000) :
  Calls Tryz.prog 193 #[zI r,zP vm] w (fun e w'=>e=.returned (.bool (!(decide (0≤r) && decide (r≤m-1))))∧AG w w'):=by
 refine Ap [zI r,zP vm] 9 Tryz.func193 Z Z sM ?_
 have a0:AG w w:=AG.refl w
 refine aI Z<|aH [0,2,0,0,0,0] Z<|Ad 1 Z<|Ah (.inr Z) (zI m) AC Z (Bc a0 hcm) Aa ?_
 refine BB (m-((1:Nat):Int)) Z Z (Dp sD sD) Aa ?_
 exact AA 117 [] [] [zI r,zI ((0:Nat):Int),zI (m-((1:Nat):Int))] Z Z CT Aa (.bool (decide (((0:Nat):Int)≤r) && decide (r≤(m-((1:Nat):Int))))) (fun wq=>AV wq _ _ _ _hr oM oM)<|Br (!(decide (((0:Nat):Int)≤r) && decide (r≤(m-((1:Nat):Int))))) Z Z Aa<|Ac 1 Z<|A1<|Af [3] Z (.bool (!(decide (((0:Nat):Int)≤r) && decide (r≤(m-((1:Nat):Int)))))) Z ⟨AJ (by first|rfl|simp_all),a0⟩
theorem Ho {p:Prop}(h:p:=by first|rfl|exact AJ (A5 oM)|(exfalso;(try unfold Es at hf);omega)):p:=h
theorem E8 {p:Prop}(h:p:=by rw[A5 oM,A5 oM];rfl):p:=h
theorem HL (w:World)(ni:Nat)(ipT:Int)(vtc vtg vtx:Value)(T:Tp)(oT:Sr)(c:AD)(k:Int)(_hipT:Bt ipT)(htcT:RN [] (Dw 4 No) w.heap vtc T.code)(htgT:RN [] (Dw 2 Np) w.heap vtg T.grd)(htoT:RN [] (AX rI) w.heap vtx oT)(hc:R9 c)(_hk:Bt k)(hip:ipT=(ni:Int)∧ni≤12)(hk:0≤k∧k≤4000)(hf:Es ni k.toNat c) :
  Calls Tryz.prog 192 #[(.agg #[(zI ipT),vtc,vtg,vtx]),(.agg #[(zI c.op),(zI c.a),(zI c.b),(zI c.num)]),zI k] w (fun e w'=>e=.returned (.bool true)∧AG w w'):=by
 refine Ap [.agg #[zI ipT,vtc,vtg,vtx],.agg #[zI c.op,zI c.a,zI c.b,zI c.num],zI k] 81 Tryz.func192 Z Z sM ?_
 have af:AG w w:=AG.refl w
 have hl_vtx:=htoT.lenL
 unfold maxLen at hl_vtx
 refine aH [3,3,0] Z (Bu (cs:=#[zI ipT,vtc,vtg,vtx]) Z Aa fun w1 ac am a8=>?_)
 have ag:=ac.size
 have ah:=af.trans ac
 replace a8:BX w1.heap w.heap.size [zI ipT,vtc,vtg,vtx]:=a8
 have an:=a8.lt
 refine Bu (cs:=#[zI c.op,zI c.a,zI c.b,zI c.num]) Z Aa fun w2 a9 ao a0=>?_
 have ai:=a9.size
 have a1:=ah.trans a9
 have a2:=a8.ext a9
 replace a0:BX w2.heap w1.heap.size [zI c.op,zI c.a,zI c.b,zI c.num]:=a0
 refine Ac 1 Z<|A0<|aH [0,2] Z<|Ak (p:=zP w1.heap.size) 0 KX Z Z Aa<|Ah (p:=Ao (zP w1.heap.size) 0) (.inr Z) (zI c.op) AC Z (a0.ldp (i:=0) sM) Aa<|Aj<|A3<|aH [0,0] Z ?_
 by_cases ad:c.op=((1:Nat):Int)
 ·refine Al true Z Z (A5 ad) Aa<|Ac 1 Z<|Ag Z<|aH [0,2,0,0,0,2,0,0,0,0,2,0,2,0,0,0,0] Z ?_
  unfold Es at hf
  refine Ak (p:=zP w1.heap.size) 1 CH Z Z Aa<|Ah (p:=Ao (zP w1.heap.size) 1) (.inr Z) (zI c.a) AC Z (a0.ldp (i:=1) sM) Aa ?_
  have aj:c.a=((0:Nat):Int):=oM
  refine Al true Z Z (A5 aj) Aa<|Ad 1 Z<|Ak (p:=zP w1.heap.size) 2 Cx Z Z (Ae (e:=14) Z Z Z)<|Ah (p:=Ao (zP w1.heap.size) 2) (.inr Z) (zI c.b) AC Z (a0.ldp (i:=2) sM) (Ae (e:=14) Z Z Z) ?_
  have ak:c.b=((0:Nat):Int):=oM
  refine Al true Z Z (A5 ak) (Ae (e:=14) Z Z Z)<|Ad 2 Z<|Ak (p:=zP w1.heap.size) 3 EY Z Z (Ae (e:=19) Z Z Z)<|Ah (p:=Ao (zP w1.heap.size) 3) (.inr Z) (zI c.num) AC Z (a0.ldp (i:=3) sM) (Ae (e:=19) Z Z Z)<|Ak (p:=zP w.heap.size) 0 MF Z Z (Ae (e:=19) Z Z Z)<|Ah (p:=Ao (zP w.heap.size) 0) (.inr Z) (zI ipT) AC Z (a2.ldp (i:=0) sM) (Ae (e:=19) Z Z Z) ?_
  refine BB (ipT-((1:Nat):Int)) Z Z (Dp sD sD) (Ae (e:=19) Z Z Z) ?_
  refine AA 117 [] [] [zI c.num,zI ((0:Nat):Int),zI (ipT-((1:Nat):Int))] Z Z CT (Ae (e:=19) Z Z Z) (.bool (decide (((0:Nat):Int)≤c.num) && decide (c.num≤(ipT-((1:Nat):Int))))) (fun wq=>AV wq _ _ _ hc.2.2.2 oM oM) ?_
  rw[show(decide (((0:Nat):Int)≤c.num) && decide (c.num≤(ipT-((1:Nat):Int))))=true from E8]
  exact Ac 2 Z<|A1<|AF<|Am<|Af [6] Z (.bool true) Z ⟨Ho,a1⟩
 refine Al false Z Z (A6 ad) Aa<|Ac 1 Z<|Ai Z<|aH [0,0] Z ?_
 by_cases ae:c.op=((2:Nat):Int)
 ·refine Al true Z Z (A5 ae) Aa<|Ac 1 Z<|Ag Z<|aH [0,2,0,0,0,2,0,0,0,0,2,0,0,0] Z ?_
  unfold Es at hf
  refine Ak (p:=zP w1.heap.size) 1 CH Z Z Aa<|Ah (p:=Ao (zP w1.heap.size) 1) (.inr Z) (zI c.a) AC Z (a0.ldp (i:=1) sM) Aa ?_
  have al:c.a=((0:Nat):Int):=oM
  refine Al true Z Z (A5 al) Aa<|Ad 1 Z<|Ak (p:=zP w1.heap.size) 2 Cx Z Z (Ae (e:=32) Z Z Z)<|Ah (p:=Ao (zP w1.heap.size) 2) (.inr Z) (zI c.b) AC Z (a0.ldp (i:=2) sM) (Ae (e:=32) Z Z Z) ?_
  have aa:c.b=((0:Nat):Int):=oM
  refine Al true Z Z (A5 aa) (Ae (e:=32) Z Z Z)<|Ad 2 Z<|Ak (p:=zP w1.heap.size) 3 EY Z Z (Ae (e:=37) Z Z Z)<|Ah (p:=Ao (zP w1.heap.size) 3) (.inr Z) (zI c.num) AC Z (a0.ldp (i:=3) sM) (Ae (e:=37) Z Z Z)<|AA 170 [] [] [zI c.num] Z Z Si (Ae (e:=37) Z Z Z) (.bool<|HP c.num) (fun wq=>Ev wq _ hc.2.2.2) ?_
  rw[show(HP c.num)=true from Ce.2 ⟨zO,zO⟩]
  exact Ac 2 Z<|A1<|AF<|Am<|Af [6] Z (.bool true) Z ⟨Ho,a1⟩
 refine Al false Z Z (A6 ae) Aa<|Ac 1 Z<|Ai Z<|A0<|aH [0,0] Z ?_
 by_cases a3:c.op=((3:Nat):Int)
 ·refine Al true Z Z (A5 a3) Aa<|Ac 1 Z<|Ag Z<|A2<|Ag Z<|aH [0,2,0,0,0,0,0,2,0,0,0,0,0,0,2,0,0,0] Z ?_
  unfold Es at hf
  refine Ak (p:=zP w1.heap.size) 1 CH Z Z Aa<|Ah (p:=Ao (zP w1.heap.size) 1) (.inr Z) (zI c.a) AC Z (a0.ldp (i:=1) sM) Aa<|Ad 1 Z ?_
  refine BB (k-((1:Nat):Int)) Z Z (Dp sD sD) Aa ?_
  refine AA 117 [] [] [zI c.a,zI ((0:Nat):Int),zI (k-((1:Nat):Int))] Z Z CT Aa (.bool (decide (((0:Nat):Int)≤c.a) && decide (c.a≤(k-((1:Nat):Int))))) (fun wq=>AV wq _ _ _ hc.2.1 oM oM) ?_
  rw[show(decide (((0:Nat):Int)≤c.a) && decide (c.a≤(k-((1:Nat):Int))))=true from E8]
  refine Ad 1 Z<|Ak (p:=zP w1.heap.size) 2 Cx Z Z (Ae (e:=52) Z Z Z)<|Ah (p:=Ao (zP w1.heap.size) 2) (.inr Z) (zI c.b) AC Z (a0.ldp (i:=2) sM) (Ae (e:=52) Z Z Z)<|Ad 1 Z ?_
  refine BB (k-((1:Nat):Int)) Z Z (Dp sD sD) (Ae (e:=52) Z Z Z) ?_
  refine AA 117 [] [] [zI c.b,zI ((0:Nat):Int),zI (k-((1:Nat):Int))] Z Z CT (Ae (e:=52) Z Z Z) (.bool (decide (((0:Nat):Int)≤c.b) && decide (c.b≤(k-((1:Nat):Int))))) (fun wq=>AV wq _ _ _ hc.2.2.1 oM oM) ?_
  rw[show(decide (((0:Nat):Int)≤c.b) && decide (c.b≤(k-((1:Nat):Int))))=true from E8]
  exact Ad 2 Z<|Ak (p:=zP w1.heap.size) 3 EY Z Z (Ae (e:=59) Z Z Z)<|Ah (p:=Ao (zP w1.heap.size) 3) (.inr Z) (zI c.num) AC Z (a0.ldp (i:=3) sM) (Ae (e:=59) Z Z Z)<|Al (decide (c.num=((0:Nat):Int))) Z Z Z (Ae (e:=59) Z Z Z)<|Ac 2 Z<|A1<|AF<|Am<|Af [6] Z (.bool<|decide (c.num=((0:Nat):Int))) Z ⟨Ho,a1⟩
 refine Al false Z Z (A6 a3) Aa<|Ac 1 Z<|Ai Z<|aH [0,0] Z ?_
 by_cases a4:c.op=((4:Nat):Int)
 ·refine Al true Z Z (A5 a4) Aa<|Ac 1 Z<|Ag Z<|A2<|Ag Z<|aH [0,2,0,0,0,0,0,2,0,0,0,0,0,0,2,0,0,0] Z ?_
  unfold Es at hf
  refine Ak (p:=zP w1.heap.size) 1 CH Z Z Aa<|Ah (p:=Ao (zP w1.heap.size) 1) (.inr Z) (zI c.a) AC Z (a0.ldp (i:=1) sM) Aa<|Ad 1 Z ?_
  refine BB (k-((1:Nat):Int)) Z Z (Dp sD sD) Aa ?_
  refine AA 117 [] [] [zI c.a,zI ((0:Nat):Int),zI (k-((1:Nat):Int))] Z Z CT Aa (.bool (decide (((0:Nat):Int)≤c.a) && decide (c.a≤(k-((1:Nat):Int))))) (fun wq=>AV wq _ _ _ hc.2.1 oM oM) ?_
  rw[show(decide (((0:Nat):Int)≤c.a) && decide (c.a≤(k-((1:Nat):Int))))=true from E8]
  refine Ad 1 Z<|Ak (p:=zP w1.heap.size) 2 Cx Z Z (Ae (e:=52) Z Z Z)<|Ah (p:=Ao (zP w1.heap.size) 2) (.inr Z) (zI c.b) AC Z (a0.ldp (i:=2) sM) (Ae (e:=52) Z Z Z)<|Ad 1 Z ?_
  refine BB (k-((1:Nat):Int)) Z Z (Dp sD sD) (Ae (e:=52) Z Z Z) ?_
  refine AA 117 [] [] [zI c.b,zI ((0:Nat):Int),zI (k-((1:Nat):Int))] Z Z CT (Ae (e:=52) Z Z Z) (.bool (decide (((0:Nat):Int)≤c.b) && decide (c.b≤(k-((1:Nat):Int))))) (fun wq=>AV wq _ _ _ hc.2.2.1 oM oM) ?_
  rw[show(decide (((0:Nat):Int)≤c.b) && decide (c.b≤(k-((1:Nat):Int))))=true from E8]
  exact Ad 2 Z<|Ak (p:=zP w1.heap.size) 3 EY Z Z (Ae (e:=59) Z Z Z)<|Ah (p:=Ao (zP w1.heap.size) 3) (.inr Z) (zI c.num) AC Z (a0.ldp (i:=3) sM) (Ae (e:=59) Z Z Z)<|Al (decide (c.num=((0:Nat):Int))) Z Z Z (Ae (e:=59) Z Z Z)<|Ac 2 Z<|A1<|AF<|Am<|Af [6] Z (.bool<|decide (c.num=((0:Nat):Int))) Z ⟨Ho,a1⟩
 refine Al false Z Z (A6 a4) Aa<|Ac 1 Z<|Ai Z<|aH [0,0] Z ?_
 by_cases a5:c.op=((5:Nat):Int)
 ·refine Al true Z Z (A5 a5) Aa<|Ac 1 Z<|Ag Z<|A2<|Ag Z<|aH [0,2,0,0,0,0,0,2,0,0,0,0,0,0,2,0,0,0] Z ?_
  unfold Es at hf
  refine Ak (p:=zP w1.heap.size) 1 CH Z Z Aa<|Ah (p:=Ao (zP w1.heap.size) 1) (.inr Z) (zI c.a) AC Z (a0.ldp (i:=1) sM) Aa<|Ad 1 Z ?_
  refine BB (k-((1:Nat):Int)) Z Z (Dp sD sD) Aa ?_
  refine AA 117 [] [] [zI c.a,zI ((0:Nat):Int),zI (k-((1:Nat):Int))] Z Z CT Aa (.bool (decide (((0:Nat):Int)≤c.a) && decide (c.a≤(k-((1:Nat):Int))))) (fun wq=>AV wq _ _ _ hc.2.1 oM oM) ?_
  rw[show(decide (((0:Nat):Int)≤c.a) && decide (c.a≤(k-((1:Nat):Int))))=true from E8]
  refine Ad 1 Z<|Ak (p:=zP w1.heap.size) 2 Cx Z Z (Ae (e:=52) Z Z Z)<|Ah (p:=Ao (zP w1.heap.size) 2) (.inr Z) (zI c.b) AC Z (a0.ldp (i:=2) sM) (Ae (e:=52) Z Z Z)<|Ad 1 Z ?_
  refine BB (k-((1:Nat):Int)) Z Z (Dp sD sD) (Ae (e:=52) Z Z Z) ?_
  refine AA 117 [] [] [zI c.b,zI ((0:Nat):Int),zI (k-((1:Nat):Int))] Z Z CT (Ae (e:=52) Z Z Z) (.bool (decide (((0:Nat):Int)≤c.b) && decide (c.b≤(k-((1:Nat):Int))))) (fun wq=>AV wq _ _ _ hc.2.2.1 oM oM) ?_
  rw[show(decide (((0:Nat):Int)≤c.b) && decide (c.b≤(k-((1:Nat):Int))))=true from E8]
  exact Ad 2 Z<|Ak (p:=zP w1.heap.size) 3 EY Z Z (Ae (e:=59) Z Z Z)<|Ah (p:=Ao (zP w1.heap.size) 3) (.inr Z) (zI c.num) AC Z (a0.ldp (i:=3) sM) (Ae (e:=59) Z Z Z)<|Al (decide (c.num=((0:Nat):Int))) Z Z Z (Ae (e:=59) Z Z Z)<|Ac 2 Z<|A1<|AF<|Am<|Af [6] Z (.bool<|decide (c.num=((0:Nat):Int))) Z ⟨Ho,a1⟩
 refine Al false Z Z (A6 a5) Aa<|Ac 1 Z<|Ai Z<|Ab _ [0,0] Z ?_
 by_cases a6:c.op=((6:Nat):Int)
 ·refine Al true Z Z (A5 a6) Aa<|Ac 1 Z<|Ag Z<|aH [0,2,0,0,0,0,0,2,0,0,0,0,0,0,2,0,0,0] Z ?_
  unfold Es at hf
  refine Ak (p:=zP w1.heap.size) 1 CH Z Z Aa<|Ah (p:=Ao (zP w1.heap.size) 1) (.inr Z) (zI c.a) AC Z (a0.ldp (i:=1) sM) Aa<|Ad 1 Z ?_
  refine BB (k-((1:Nat):Int)) Z Z (Dp sD sD) Aa ?_
  refine AA 117 [] [] [zI c.a,zI ((0:Nat):Int),zI (k-((1:Nat):Int))] Z Z CT Aa (.bool (decide (((0:Nat):Int)≤c.a) && decide (c.a≤(k-((1:Nat):Int))))) (fun wq=>AV wq _ _ _ hc.2.1 oM oM) ?_
  rw[show(decide (((0:Nat):Int)≤c.a) && decide (c.a≤(k-((1:Nat):Int))))=true from E8]
  refine Ad 1 Z<|Ak (p:=zP w1.heap.size) 2 Cx Z Z (Ae (e:=52) Z Z Z)<|Ah (p:=Ao (zP w1.heap.size) 2) (.inr Z) (zI c.b) AC Z (a0.ldp (i:=2) sM) (Ae (e:=52) Z Z Z)<|Ad 1 Z ?_
  refine BB (k-((1:Nat):Int)) Z Z (Dp sD sD) (Ae (e:=52) Z Z Z) ?_
  refine AA 117 [] [] [zI c.b,zI ((0:Nat):Int),zI (k-((1:Nat):Int))] Z Z CT (Ae (e:=52) Z Z Z) (.bool (decide (((0:Nat):Int)≤c.b) && decide (c.b≤(k-((1:Nat):Int))))) (fun wq=>AV wq _ _ _ hc.2.2.1 oM oM) ?_
  rw[show(decide (((0:Nat):Int)≤c.b) && decide (c.b≤(k-((1:Nat):Int))))=true from E8]
  exact Ad 2 Z<|Ak (p:=zP w1.heap.size) 3 EY Z Z (Ae (e:=59) Z Z Z)<|Ah (p:=Ao (zP w1.heap.size) 3) (.inr Z) (zI c.num) AC Z (a0.ldp (i:=3) sM) (Ae (e:=59) Z Z Z)<|Al (decide (c.num=((0:Nat):Int))) Z Z Z (Ae (e:=59) Z Z Z)<|Ac 2 Z<|A1<|AF<|Am<|Af [6] Z (.bool<|decide (c.num=((0:Nat):Int))) Z ⟨Ho,a1⟩
 refine Al false Z Z (A6 a6) Aa<|Ac 1 Z<|Ai Z<|aH [0,0] Z ?_
 by_cases a7:c.op=((7:Nat):Int)
 ·refine Al true Z Z (A5 a7) Aa<|Ac 1 Z<|Ag Z<|aH [0,2,0,0,0,0,0,2,0,0,0,0,2,0,0,0] Z ?_
  unfold Es at hf
  refine Ak (p:=zP w1.heap.size) 1 CH Z Z Aa<|Ah (p:=Ao (zP w1.heap.size) 1) (.inr Z) (zI c.a) AC Z (a0.ldp (i:=1) sM) Aa<|Ad 1 Z ?_
  refine BB (k-((1:Nat):Int)) Z Z (Dp sD sD) Aa ?_
  refine AA 117 [] [] [zI c.a,zI ((0:Nat):Int),zI (k-((1:Nat):Int))] Z Z CT Aa (.bool (decide (((0:Nat):Int)≤c.a) && decide (c.a≤(k-((1:Nat):Int))))) (fun wq=>AV wq _ _ _ hc.2.1 oM oM) ?_
  rw[show(decide (((0:Nat):Int)≤c.a) && decide (c.a≤(k-((1:Nat):Int))))=true from E8]
  refine Ad 1 Z<|Ak (p:=zP w1.heap.size) 2 Cx Z Z (Ae (e:=71) Z Z Z)<|Ah (p:=Ao (zP w1.heap.size) 2) (.inr Z) (zI c.b) AC Z (a0.ldp (i:=2) sM) (Ae (e:=71) Z Z Z) ?_
  have ab:c.b=((0:Nat):Int):=oM
  exact Al true Z Z (A5 ab) (Ae (e:=71) Z Z Z)<|Ad 2 Z<|Ak (p:=zP w1.heap.size) 3 EY Z Z (Ae (e:=76) Z Z Z)<|Ah (p:=Ao (zP w1.heap.size) 3) (.inr Z) (zI c.num) AC Z (a0.ldp (i:=3) sM) (Ae (e:=76) Z Z Z)<|Al (decide (c.num=((0:Nat):Int))) Z Z Z (Ae (e:=76) Z Z Z)<|Ac 2 Z<|A1<|AF<|Am<|Af [6] Z (.bool<|decide (c.num=((0:Nat):Int))) Z ⟨Ho,a1⟩
 exact Al false Z Z (A6 a7) Aa<|Ac 1 Z<|Ai Z<|A2<|aI Z<|A1<|Af [6] Z (.bool false) Z ⟨Ho,a1⟩
theorem JC (w:World)(a:Sr)(ipT:Int)(vtc vtg vtx:Value)(T:Tp)(oT:Sr)(_hipT:Bt ipT)(htcT:RN [] (Dw 4 No) w.heap vtc T.code)(htgT:RN [] (Dw 2 Np) w.heap vtg T.grd)(htoT:RN [] (AX rI) w.heap vtx oT)(hip:ipT=(a.length:Int))(hR:Qe a T oT) :
  Calls Tryz.prog 116 #[(.agg #[(zI ipT),vtc,vtg,vtx])] w (fun e w'=>e=.returned (.bool true)∧AG w w'):=by
 refine Ap [.agg #[zI ipT,vtc,vtg,vtx]] 67 Tryz.func116 Z Z sM ?_
 have bm:AG w w:=AG.refl w
 have hl_vtx:=htoT.lenL
 unfold maxLen at hl_vtx
 have hK:=hR.k
 have hni:=hK.nb
 have hcl:=hK.cl
 have cn:=hK.gl
 have hol:=hK.ol
 have hpos:=hK.pos
 refine aH [3,0] Z (Bu (cs:=#[zI ipT,vtc,vtg,vtx]) Z Aa fun w1 b2 bw ab=>?_)
 have b3:=b2.size
 have bn:=bm.trans b2
 replace ab:BX w1.heap w.heap.size [zI ipT,vtc,vtg,vtx]:=ab
 refine Ac 1 Z<|A0<|aH [0,2,0,0,0,0,2,0,0,0,0,0,2,0,0,0,0,0,2,0,0,0,0] Z<|Ak (p:=zP w.heap.size) 0 MF Z Z Aa<|Ah (p:=Ao (zP w.heap.size) 0) (.inr Z) (zI ipT) AC Z (ab.ldp (i:=0) sM) Aa<|AA 117 [] [] [zI ipT,zI ((0:Nat):Int),zI ((12:Nat):Int)] Z Z CT Aa (.bool (decide (((0:Nat):Int)≤ipT) && decide (ipT≤((12:Nat):Int)))) (fun wq=>AV wq _ _ _ _hipT oM oM) ?_
 rw[show(decide (((0:Nat):Int)≤ipT) && decide (ipT≤((12:Nat):Int)))=true from E8]
 refine Br false Z Z Aa<|Ad 1 Z<|Ak (p:=zP w.heap.size) 1 EW Z Z (Ae (e:=12) Z Z Z)<|Ah (p:=Ao (zP w.heap.size) 1) (.inr Z) vtc JN Z (ab.ldp (i:=1) sM) (Ae (e:=12) Z Z Z)<|AO (v:=vtc) Oo Z htcT.isSl (Ae (e:=12) Z Z Z) ?_
 have bx:¬(((3200:Nat):Int)<(T.code.length:Int)):=oM
 refine BN false Z Z (A6 bx) (Ae (e:=12) Z Z Z)<|Ad 2 Z<|Ak (p:=zP w.heap.size) 2 MG Z Z (Ae (e:=18) Z Z Z)<|Ah (p:=Ao (zP w.heap.size) 2) (.inr Z) vtg Sp Z (ab.ldp (i:=2) sM) (Ae (e:=18) Z Z Z)<|AO (v:=vtg) YJ Z htgT.isSl (Ae (e:=18) Z Z Z) ?_
 have bz:¬(((3200:Nat):Int)<(T.grd.length:Int)):=oM
 refine BN false Z Z (A6 bz) (Ae (e:=18) Z Z Z)<|Ad 2 Z<|Ak (p:=zP w.heap.size) 3 Js Z Z (Ae (e:=24) Z Z Z)<|Ah (p:=Ao (zP w.heap.size) 3) (.inr Z) vtx Bk Z (ab.ldp (i:=3) sM) (Ae (e:=24) Z Z Z)<|AO (v:=vtx) Bj Z htoT.slL (Ae (e:=24) Z Z Z)<|AA 117 [] [] [zI (oT.length:Int),zI ((1:Nat):Int),zI ((12:Nat):Int)] Z Z CT (Ae (e:=24) Z Z Z) (.bool (decide (((1:Nat):Int)≤(oT.length:Int)) && decide ((oT.length:Int)≤((12:Nat):Int)))) (fun wq=>AV wq _ _ _ oM oM oM) ?_
 rw[show(decide (((1:Nat):Int)≤(oT.length:Int)) && decide ((oT.length:Int)≤((12:Nat):Int)))=true from E8]
 refine Br false Z Z (Ae (e:=24) Z Z Z)<|Ac 1 Z<|Ai Z<|A2<|aH [0,2,0,3,4] Z<|Ak (p:=zP w.heap.size) 1 EW Z Z Aa<|Ah (p:=Ao (zP w.heap.size) 1) (.inr Z) vtc JN Z (ab.ldp (i:=1) sM) Aa<|AO (v:=vtc) Oo Z htcT.isSl Aa ?_
 have ce:=ab.lt
 refine Bp (z:=zI (0:Int)) (by kernel_rfl) Aa fun w6 b0 c0 b4=>?_
 have b5:=b0.size
 have b6:=bn.trans b0
 have aq:=ab.ext b0
 replace b4:BX w6.heap w1.heap.size [zI (0:Int)]:=b4
 refine Bl (k:=0) (w:=w6) GH Z Z ⟨rfl,rfl⟩ b4 sM Aa fun w8 b1 c1 b7=>?_
 replace b7:BX w8.heap w1.heap.size [zI (T.code.length:Int)]:=b7
 have bo:AG w w8:=b1.below b6 (fun _ h=>zE h) b6.size
 have b8:w6.heap.size≤w8.heap.size:=b1.size
 have b9:=aq.chg b1 (zB ·)
 refine Aj<|A0<|aH [0,2,0,0] Z<|Ak (p:=zP w.heap.size) 1 EW Z Z Aa<|Ah (p:=Ao (zP w.heap.size) 1) (.inr Z) vtc JN Z (b9.ldp (i:=1) sM) Aa<|AO (v:=vtc) Oo Z htcT.isSl Aa<|Ac 1 Z<|A3 ?_
 refine AW (S:=Nat) (fun k=>([(37,zI (k:Int)),(1,zP w.heap.size),(3,zP w1.heap.size),(35,vtc),(36,zI (T.code.length:Int))])) (fun k W=>AG w W∧BX W.heap w.heap.size [zI ipT,vtc,vtg,vtx]∧BX W.heap w1.heap.size [zI (T.code.length:Int)]∧k≤T.code.length) (fun k=>T.code.length-k) 0 ⟨rfl,rfl,rfl,rfl,rfl,trivial⟩ ⟨bo,b9,b7,oM⟩ ?_
 clear bm bw b2 b3 bn c0 b0 b5 b6 c1 b1 bo b8 b9
 rintro k ρ10 ci ⟨a8,a0,a1,ba⟩
 have ar:w.heap.size≤ci.heap.size:=a8.size
 have c2:=a0.lt
 have c3:=a1.lt
 refine aH [0] Z ?_
 by_cases au:(k:Int)<(T.code.length:Int)
 ·refine AE true Z Z (A5 au) Aa<|Aj<|A0<|Ag Z<|A2<|A0<|A3<|aH [0,0,2,3,0,4] Z<|Ad 1 Z<|Az (v:=vtc) k Oo IY Z Z htcT.isSl Z sD Aa ?_
  obtain⟨cs14,bb,bc⟩:=htcT.get B4 AD.zero (k:=k) sD
  obtain⟨rfl,ac⟩:=MA bb
  refine AL (p:=Ax vtc k 4) (.inr Z) [zI<|(T.code.getD k AD.zero).op,zI<|(T.code.getD k AD.zero).a,zI<|(T.code.getD k AD.zero).b,zI<|(T.code.getD k AD.zero).num] EX Z (fun cg ak=>bc cg<|As.of_ext []<|a8.trans ak) Z Aa ?_
  have c4:=a0.lt
  have c5:=a1.lt
  refine Bp (z:=.agg #[zI 0,zI 0,zI 0,zI 0]) Ss Aa fun ck ad c6 al=>?_
  have bp:=ad.size
  have av:=a8.trans ad
  have a4:=a0.ext ad
  have a5:=a1.ext ad
  replace al:BX ck.heap ci.heap.size [zI 0,zI 0,zI 0,zI 0]:=al
  refine Ad 1 Z (Bw (vs:=[zI<|(T.code.getD k AD.zero).op,zI<|(T.code.getD k AD.zero).a,zI<|(T.code.getD k AD.zero).b,zI<|(T.code.getD k AD.zero).num]) EX Z Z (by intro u hu;simp only[ze,z2,or_false]at hu;rcases hu with rfl|rfl|rfl|rfl <;> first|exact⟨rfl,rfl⟩) al Z Z Aa fun ch ae c7 am=>?_)
  replace am:BX ch.heap ci.heap.size [zI ((T.code.getD k AD.zero).op),zI ((T.code.getD k AD.zero).a),zI ((T.code.getD k AD.zero).b),zI ((T.code.getD k AD.zero).num)]:=am
  have af:AG w ch:=ae.below av (fun _ h=>zE h) av.size
  have bq:ck.heap.size≤ch.heap.size:=ae.size
  have aw:=a4.chg ae (zB ·)
  have bd:=a5.chg ae (zB ·)
  refine Aj<|aH [2,2,0,3,0] Z<|AL (p:=zP w.heap.size) (.inr Z) [zI ipT,vtc,vtg,vtx] DY Z (fun cg ak=>LD.of_box<|BX.ext (w:=ch) aw ak) Z Aa<|AL (p:=zP ci.heap.size) (.inr Z) [zI<|(T.code.getD k AD.zero).op,zI<|(T.code.getD k AD.zero).a,zI<|(T.code.getD k AD.zero).b,zI<|(T.code.getD k AD.zero).num] EX Z (fun cg ak=>LD.of_box<|BX.ext (w:=ch) am ak) Z Aa<|Ad 1 Z ?_
  refine Au 192 [] [] [.agg #[zI ipT,vtc,vtg,vtx],.agg #[zI<|(T.code.getD k AD.zero).op,zI<|(T.code.getD k AD.zero).a,zI<|(T.code.getD k AD.zero).b,zI<|(T.code.getD k AD.zero).num],zI (k:Int)] Z Z Yg Aa (HL _ a.length (ipT) vtc vtg vtx (T) (oT) (⟨(T.code.getD k AD.zero).op,(T.code.getD k AD.zero).a,(T.code.getD k AD.zero).b,(T.code.getD k AD.zero).num⟩:AD) _ _hipT (htcT.ext (An B4) af) (htgT.ext (An Bd) af) (htoT.ext g1 af) ⟨ac.1,ac.2.1,ac.2.2.1,ac.2.2.2⟩ oM oM oM (by have h9:=hK.form k oM;rw[Int.toNat_natCast];exact h9)) ?_
  rintro co cp ⟨rfl,a9⟩
  refine⟨_,rfl,a9,?_⟩
  have br:=a9.size
  have be:=af.trans a9
  have ag:=aw.ext a9
  have ah:=bd.ext a9
  exact Br false Z Z Aa<|Aj<|Ai Z<|A2<|Ab _ [0,0] Z<|AN ((k+1:Nat):Int) Z Z (Be oM sD) Aa<|Ac 1 Z ⟨k+1,_,rfl,zR,⟨be,ag,ah,oM⟩,zD⟩
 refine AE false Z Z (A6 au) Aa<|Aj<|A0<|Ai Z<|A4<|Av<|Av<|Aq<|A0<|aH [0,2,0,0] Z<|Ak (p:=zP w.heap.size) 2 MG Z Z Aa<|Ah (p:=Ao (zP w.heap.size) 2) (.inr Z) vtg Sp Z (a0.ldp (i:=2) sM) Aa<|AO (v:=vtg) YJ Z htgT.isSl Aa<|Ac 1 Z<|A3 ?_
 refine AW (S:=Nat) (fun j=>([(51,zI (j:Int)),(1,zP w.heap.size),(3,zP w1.heap.size),(49,vtg),(50,zI (T.grd.length:Int))])) (fun j W=>AG w W∧BX W.heap w.heap.size [zI ipT,vtc,vtg,vtx]∧BX W.heap w1.heap.size [zI (T.code.length:Int)]∧j≤T.grd.length) (fun j=>T.grd.length-j) 0 ⟨rfl,rfl,rfl,rfl,rfl,trivial⟩ ⟨a8,a0,a1,oM⟩ ?_
 clear a1 a0 a8 ar
 rintro j ρ22 cf ⟨aa,a2,a3,bf⟩
 have bs:w.heap.size≤cf.heap.size:=aa.size
 have c8:=a2.lt
 have c9:=a3.lt
 refine aH [0] Z ?_
 by_cases ax:(j:Int)<(T.grd.length:Int)
 ·refine AE true Z Z (A5 ax) Aa<|Aj<|A0<|Ag Z<|A2<|A0<|A3<|aH [0,2,3,4] Z<|Az (v:=vtg) j YJ Oq Z Z htgT.isSl Z sD Aa ?_
  obtain⟨cs26,bg,bh⟩:=htgT.get Bd I9.zero (k:=j) sD
  obtain⟨rfl,bi⟩:=VS bg
  refine AL (p:=Ax vtg j 2) (.inr Z) [zI<|(T.grd.getD j I9.zero).reg,.bool<|(T.grd.getD j I9.zero).z] St Z (fun cg ak=>bh cg<|As.of_ext []<|aa.trans ak) Z Aa ?_
  have ca:=a2.lt
  have cb:=a3.lt
  refine Bp (z:=.agg #[zI 0,.bool false]) YL Aa fun cm ai cc an=>?_
  have bt:=ai.size
  have ay:=aa.trans ai
  have a6:=a2.ext ai
  have a7:=a3.ext ai
  replace an:BX cm.heap cf.heap.size [zI 0,.bool false]:=an
  refine Bw (vs:=[zI<|(T.grd.getD j I9.zero).reg,.bool<|(T.grd.getD j I9.zero).z]) St Z Z (by intro u hu;simp only[ze,z2,or_false]at hu;rcases hu with rfl|rfl <;> first|exact⟨rfl,rfl⟩) an Z Z Aa fun cj aj cd ao=>?_
  replace ao:BX cj.heap cf.heap.size [zI ((T.grd.getD j I9.zero).reg),.bool ((T.grd.getD j I9.zero).z)]:=ao
  have bj:AG w cj:=aj.below ay (fun _ h=>zE h) ay.size
  have bu:cm.heap.size≤cj.heap.size:=aj.size
  have bk:=a6.chg aj (zB ·)
  have az:=a7.chg aj (zB ·)
  refine Aj<|aH [0,2,2,0,0,0] Z ?_
  have hgj:=hK.gd j oM
  refine Ak (p:=zP cf.heap.size) 0 TN Z Z Aa<|Ah (p:=Ao (zP cf.heap.size) 0) (.inr Z) (zI<|(T.grd.getD j I9.zero).reg) AC Z (ao.ldp (i:=0) sM) Aa<|Ah (p:=zP w1.heap.size) (.inr Z) (zI (T.code.length:Int)) AC Z (az.ld (k:=0) sM) Aa ?_
  refine BB ((T.code.length:Int)-((1:Nat):Int)) Z Z (Dp sD sD) Aa ?_
  refine AA 117 [] [] [zI<|(T.grd.getD j I9.zero).reg,zI ((0:Nat):Int),zI ((T.code.length:Int)-((1:Nat):Int))] Z Z CT Aa (.bool (decide (((0:Nat):Int)≤((T.grd.getD j I9.zero).reg)) && decide (((T.grd.getD j I9.zero).reg)≤((T.code.length:Int)-((1:Nat):Int))))) (fun wq=>AV wq _ _ _ bi oM oM) ?_
  rw[show(decide (((0:Nat):Int)≤((T.grd.getD j I9.zero).reg)) && decide (((T.grd.getD j I9.zero).reg)≤((T.code.length:Int)-((1:Nat):Int))))=true from E8]
  exact Br false Z Z Aa<|Aj<|Ai Z<|A2<|Ab _ [0,0] Z<|AN ((j+1:Nat):Int) Z Z (Be oM sD) Aa<|Ac 1 Z ⟨j+1,_,rfl,zR,⟨bj,bk,az,oM⟩,zD⟩
 refine AE false Z Z (A6 ax) Aa<|Aj<|A0<|Ai Z<|A4<|Av<|Av<|Aq<|aH [0,2,0,3,0,0] Z<|Ak (p:=zP w.heap.size) 3 Js Z Z Aa<|Ah (p:=Ao (zP w.heap.size) 3) (.inr Z) vtx Bk Z (a2.ldp (i:=3) sM) Aa<|Mf [] [zP w1.heap.size] Z Z Aa ?_
 refine Au 168 [] [] [vtx,.func (.func 193) #[] #[zP w1.heap.size]] Z Z UA Aa (C6 _ _ _ 193 [] [zP w1.heap.size] (fun x=>!(decide (0≤x) && decide (x≤(T.code.length:Int)-1))) (htoT.ext g1 aa).rd Yh fun x hx wz hw=>Iu wz x w1.heap.size (T.code.length:Int) hx ((BX.ext (w:=cf) a3 hw).ld (k:=0) sM) oM oM) ?_
 rintro cq cr ⟨rfl,ap⟩
 refine⟨_,rfl,ap,?_⟩
 have bv:=ap.size
 have bl:=aa.trans ap
 rw[show(oT.any (fun x=>!(decide (0≤x) && decide (x≤(T.code.length:Int)-1))))=false from hK.any]
 exact Br true Z Z Aa<|Ac 1 Z<|A1<|Af [2] Z (.bool true) Z ⟨rfl,bl⟩
theorem J3 (w:World)(a:Sr)(ipT:Int)(vtc vtg vtx:Value)(T:Tp)(oT:Sr)(vl:Value)(L:List (Sr))(_hipT:Bt ipT)(htcT:RN [] (Dw 4 No) w.heap vtc T.code)(htgT:RN [] (Dw 2 Np) w.heap vtg T.grd)(htoT:RN [] (AX rI) w.heap vtx oT)(hL:RN [] (AX (AX rI)) w.heap vl L)(hqL:C8 vl)(hip:ipT=(a.length:Int))(hR:Qe a T oT)(hLL:∀k,k<L.length→(L.getD k []).length=a.length∧B2 (L.getD k [])=true) :
  Calls Tryz.prog 108 #[(.agg #[(zI ipT),vtc,vtg,vtx]),vl] w (fun e w'=>e=.returned (zI 0)∧AG w w'):=by
 refine Ap [.agg #[zI ipT,vtc,vtg,vtx],vl] 22 Tryz.func108 Z Z sM ?_
 have ac:AG w w:=AG.refl w
 have hl_vtx:=htoT.lenL
 unfold maxLen at hl_vtx
 have ap:=hL.lenL
 unfold maxLen at ap
 refine aH [3,0] Z (Bu (cs:=#[zI ipT,vtc,vtg,vtx]) Z Aa fun w1 a8 ai a6=>?_)
 have a9:=a8.size
 have a2:=ac.trans a8
 replace a6:BX w1.heap w.heap.size [zI ipT,vtc,vtg,vtx]:=a6
 refine Ac 1 Z<|A0<|aH [2,3,0] Z<|AL (p:=zP w.heap.size) (.inr Z) [zI ipT,vtc,vtg,vtx] DY Z (fun aq aj=>LD.of_box<|BX.ext (w:=w1) a6 aj) Z Aa<|Au 116 [] [] [.agg #[zI ipT,vtc,vtg,vtx]] Z Z Y1 Aa (JC _ a (ipT) vtc vtg vtx (T) (oT) _hipT (htcT.ext (An B4) a2) (htgT.ext (An Bd) a2) (htoT.ext g1 a2) oM hR) ?_
 rintro e2 w2 ⟨rfl,a3⟩
 refine⟨_,rfl,a3,?_⟩
 have aa:=a3.size
 have ad:=a2.trans a3
 have a4:=a6.ext a3
 refine Br false Z Z Aa<|Aj<|Ai Z<|A2<|A0<|aH [0,0,0] Z<|Ad 1 Z<|AO (v:=vl) BH Z hL.slL Aa<|Ac 1 Z<|A3<|AW (S:=Nat) (fun k=>([(12,zI (k:Int)),(2,zP w.heap.size),(10,vl),(11,zI (L.length:Int))])) (fun k W=>AG w W∧BX W.heap w.heap.size [zI ipT,vtc,vtg,vtx]∧k≤L.length) (fun k=>L.length-k) 0 ⟨rfl,rfl,rfl,rfl,trivial⟩ ⟨ad,a4,oM⟩ ?_
 clear ac ai a8 a9 a2 a3 aa ad
 rintro k ρ3 w3 ⟨a5,a0,ae⟩
 have ak:w.heap.size≤w3.heap.size:=a5.size
 have ao:=a0.lt
 refine aH [0] Z ?_
 by_cases af:(k:Int)<(L.length:Int)
 ·refine AE true Z Z (A5 af) Aa<|Aj<|A0<|Ag Z<|A2<|A0<|A3<|aH [0,2,0] Z<|Az (v:=vl) k BH B9 Z Z hL.slL Z sD Aa ?_
  obtain⟨ag,al,ah⟩:=RN.getL (w:=w) g1 [] (k:=k) hL sD
  have ab:=ah.lenL
  unfold maxLen at ab
  refine Ah (p:=Ax vl k 1) (.inr Z) ag Bk Z (al _<|As.of_ext [] a5) Aa<|Ac 1 Z<|aH [0,0,2,3,0] Z ?_
  have hLk:=hLL k oM
  refine Ad 1 Z<|Ak (p:=zP w.heap.size) 0 MF Z Z Aa<|Ah (p:=Ao (zP w.heap.size) 0) (.inr Z) (zI ipT) AC Z (a0.ldp (i:=0) sM) Aa<|Au 86 [] [] [ag,zI ipT] Z Z Sf Aa (Cu _ _ _ _ (ah.ext g1 a5).rd _hipT) ?_
  rintro e7 w7 ⟨rfl,a7⟩
  refine⟨_,rfl,a7,?_⟩
  have am:=a7.size
  have an:=a5.trans a7
  have a1:=a0.ext a7
  rw[show(decide ((((L.getD k []).length:Nat):Int)=ipT) && B2 (L.getD k []))=true from(by rw[A5 oM,hLk.2];rfl)]
  exact Br false Z Z Aa<|Aj<|Ai Z<|A2<|Ab _ [0,0] Z<|AN ((k+1:Nat):Int) Z Z (Be oM sD) Aa<|Ac 1 Z ⟨k+1,_,rfl,zR,⟨an,a1,oM⟩,zD⟩
 exact AE false Z Z (A6 af) Aa<|Aj<|A0<|Ai Z<|A4<|Av<|Av<|Aq<|aI Z<|A1<|Af [4] Z (zI ((0:Nat):Int)) Z ⟨rfl,a5⟩
theorem J4 (w:World)(va:Value)(a:Sr)(vd:Value)(d:Sr)(ha:Rd (AX rI) w.heap va a)(hd:Rd (AX rI) w.heap vd d)(hl:d.length=a.length)(hla:a.length≤1000) :
  Calls Tryz.prog 110 #[va,vd] w (fun e w'=>∃v0:Value,e=.returned (v0)∧AG w w'∧Fr (Bi (Bi rI 2) 27) w.heap.size w'.heap.size w'.heap v0 (Cc a d 2)):=by
 refine Ap [va,vd] 27 Tryz.func110 Z Z sM ?_
 have a9:AG w w:=AG.refl w
 have au:=ha.lenle
 have av:=hd.lenle
 refine aI Z<|aH [3,0] Z (Ch (Bi rI 2) o1 BH B9 Aa fun v1 w1 a4 af aa=>?_)
 have a5:=a4.size
 have ab:=a9.trans a4
 refine Ac 1 Z<|A0<|aH [0,0,0] Z<|Ad 1 Z<|AO (v:=va) Bj Z ha.isSl Aa<|Ac 1 Z<|A3 ?_
 refine AW (S:=Nat×Value) (fun⟨k,vo⟩=>([(5,vo),(11,zI (k:Int)),(1,vd),(9,va),(10,zI (a.length:Int))])) (fun⟨k,vo⟩ W=>AG w W∧Fr (Bi (Bi rI 2) 27) w.heap.size W.heap.size W.heap vo ((Cc a d 2).take k)∧k≤a.length) (fun⟨k,vo⟩=>a.length-k) (0,v1) ⟨rfl,rfl,rfl,rfl,rfl,trivial⟩ ⟨ab,aa.up o2,sD⟩ ?_
 clear a9 aa af a4 a5 ab
 rintro⟨k,vo⟩ ρ2 w2 ⟨a3,a2,ac⟩
 have ag:w.heap.size≤w2.heap.size:=a3.size
 refine aH [0] Z ?_
 by_cases ad:(k:Int)<(a.length:Int)
 ·refine AE true Z Z (A5 ad) Aa<|Aj<|A0<|Ag Z<|A2<|A0<|A3<|aH [0,0,2,0,0] Z<|Ad 1 Z<|Az (v:=va) k Bj Bz Z Z ha.isSl Z sD Aa ?_
  refine Ah (p:=Ax va k 1) (.inr Z) (zI<|a.getD k 0) AC Z (Bc a3 (ha.getI sD).1) Aa<|Ac 2 Z<|Ab _ [0,0,0,0,0,2,3,3,4,0] Z<|Ad 4 Z ?_
  refine Az (v:=vd) k Bj Bz Z Z hd.isSl Z sD Aa ?_
  refine Ah (p:=Ax vd k 1) (.inr Z) (zI<|d.getD k 0) AC Z (Bc a3 (hd.getI sD).1) Aa ?_
  refine Uc (ys:=[a.getD k 0,d.getD k 0]) AK Bj Bz Z Z Z Z (XO (ha.getI sD).2 (hd.getI sD).2) Aa fun v4 w4 a6 aq ah=>?_
  have ai:=a6.size
  have aj:=a3.trans a6
  have a0:=a2.ext (o2) a6
  refine BI (u:=v4) (B:=w2.heap.size) o1 BH B9 Z Z ah (by first|exact A7 _|omega) Aa fun v5 w5 a7 ar ak=>?_
  have al:=a7.size
  have a8:=aj.trans a7
  have a1:=a0.ext (o2) a7
  refine I0 o1 (v:=vo) (a:=v5) BH B9 Z Z Z a1 a8.size ak oM a3.size sD (by unfold maxLen;first|omega|assumption|(simp;done)|(simp;omega)) Aa fun v6 w6 F6 ae am an=>?_
  have ao:AG w w6:=ae.below a8 (fun c hc=>A8 (A7 _) (am c hc).1) a8.size
  have ap:w5.heap.size≤w6.heap.size:=ae.size
  refine Ac 1 Z<|Ab _ [0,0] Z<|AN ((k+1:Nat):Int) Z Z (Be oM sD) Aa<|Ac 1 Z ?_
  exact⟨(k+1,v6),_,rfl,zR,⟨ao,(by rw[CF [] (by simp;omega),TH oM];exact an.up o2),sD⟩,zD⟩
 exact AE false Z Z (A6 ad) Aa<|Aj<|A0<|Ai Z<|A4<|Av<|Av<|Aq<|aH [0,0] Z<|Ac 2 Z<|A1<|Af [4] Z vo Z ⟨vo,rfl,a3,(by have h:=a2.up o2;rwa [za (by simp;omega)]at h)⟩
theorem Lg (w:World)(ipT:Int)(vtc vtg vtx:Value)(T:Tp)(oT:Sr)(va:Value)(a:Sr)(vw:Value)(ws:Sr)(vd:Value)(d:Sr)(_hipT:Bt ipT)(htcT:RN [] (Dw 4 No) w.heap vtc T.code)(htgT:RN [] (Dw 2 Np) w.heap vtg T.grd)(htoT:RN [] (AX rI) w.heap vtx oT)(ha:Rd (AX rI) w.heap va a)(hws:Rd (AX rI) w.heap vw ws)(hd:Rd (AX rI) w.heap vd d)(hip:ipT=(a.length:Int))(hR:Qe a T oT)(hw:ws.length=oT.length∧B2 ws=true)(hdd:d.length=a.length∧B2 d=true) :
  Calls Tryz.prog 183 #[(.agg #[(zI ipT),vtc,vtg,vtx]),va,vw,vd] w (fun e w'=>e=.returned (zI 0)∧AG w w'):=by
 refine Ap [.agg #[zI ipT,vtc,vtg,vtx],va,vw,vd] 26 Tryz.func183 Z Z sM ?_
 have ab:AG w w:=AG.refl w
 have hl_vtx:=htoT.lenL
 unfold maxLen at hl_vtx
 have ah:=ha.lenle
 have an:=hws.lenle
 have ao:=hd.lenle
 have hK:=hR.k
 have hni:=hK.nb
 have hcl:=hK.cl
 have ap:=hK.gl
 have hol:=hK.ol
 have hpos:=hK.pos
 refine aH [3,0] Z (Bu (cs:=#[zI ipT,vtc,vtg,vtx]) Z Aa fun w1 a8 al a3=>?_)
 have ac:=a8.size
 have a6:=ab.trans a8
 replace a3:BX w1.heap w.heap.size [zI ipT,vtc,vtg,vtx]:=a3
 refine Ac 1 Z<|aH [2,0,0,3,3,0] Z<|AL (p:=zP w.heap.size) (.inr Z) [zI ipT,vtc,vtg,vtx] DY Z (fun aq ad=>LD.of_box<|BX.ext (w:=w1) a3 ad) Z Aa<|Ad 2 Z (PD (x0:=a) (x1:=d) BH B9 Z Z Z (RN.of<|ha.ext g1 a6) (RN.of<|hd.ext g1 a6) Aa fun v2 w2 a7 am a9 ae=>?_)
 have af:=a7.size
 have a4:=a6.trans a7
 have a0:=a3.ext a7
 refine Au 108 [] [] [.agg #[zI ipT,vtc,vtg,vtx],v2] Z Z Ut Aa (J3 _ a (ipT) vtc vtg vtx (T) (oT) v2 ([a,d]) _hipT (htcT.ext (An B4) a4) (htgT.ext (An Bd) a4) (htoT.ext g1 a4) a9 ae oM hR (by intro k hk;match k,hk with|0,_=>exact⟨rfl,hR.n⟩|1,_=>exact hdd)) ?_
 rintro e3 w3 ⟨rfl,a1⟩
 refine⟨_,rfl,a1,?_⟩
 have ag:=a1.size
 have aa:=a4.trans a1
 have a2:=a0.ext a1
 refine Ac 1 Z<|A0<|aH [0,0,0,0,0,2,0,3,0,0] Z<|Ad 1 Z ?_
 have ai:0=((0:Nat):Int):=rfl
 refine Al true Z Z (A5 ai) Aa<|Ad 2 Z<|Ak (p:=zP w.heap.size) 3 Js Z Z (Ae (e:=17) Z Z Z)<|Ah (p:=Ao (zP w.heap.size) 3) (.inr Z) vtx Bk Z (a2.ldp (i:=3) sM) (Ae (e:=17) Z Z Z)<|AO (v:=vtx) Bj Z htoT.slL (Ae (e:=17) Z Z Z)<|Au 86 [] [] [vw,zI (oT.length:Int)] Z Z Sf (Ae (e:=17) Z Z Z) (Cu _ _ _ _ (hws.ext g1 aa) oM) ?_
 rintro e6 w6 ⟨rfl,a5⟩
 refine⟨_,rfl,a5,?_⟩
 have aj:=a5.size
 have ak:=aa.trans a5
 rw[show(decide ((ws.length:Int)=(oT.length:Int)) && B2 ws)=true from(by rw[A5 oM,hw.2];rfl)]
 exact Br false Z Z (Ae (e:=17) Z Z Z)<|Ac 1 Z<|Ai Z<|A2<|aH [0,0] Z<|Ac 2 Z<|A1<|Af [8] Z (zI 0) Z ⟨rfl,ak⟩
theorem MW (w:World)(ipT:Int)(vtc vtg vtx:Value)(T:Tp)(oT:Sr)(va:Value)(a:Sr)(vw:Value)(ws:Sr)(vd:Value)(d:Sr)(_hipT:Bt ipT)(htcT:RN [] (Dw 4 No) w.heap vtc T.code)(htgT:RN [] (Dw 2 Np) w.heap vtg T.grd)(htoT:RN [] (AX rI) w.heap vtx oT)(ha:Rd (AX rI) w.heap va a)(hws:Rd (AX rI) w.heap vw ws)(hd:Rd (AX rI) w.heap vd d)(hip:ipT=(a.length:Int))(hR:Qe a T oT)(hw:ws.length=oT.length∧B2 ws=true)(hdd:d.length=a.length∧B2 d=true) :
  Calls Tryz.prog 105 #[(.agg #[(zI ipT),vtc,vtg,vtx]),va,vw,vd] w (fun e w'=>∃v0:Value,e=.returned (.tuple #[v0,zI 0])∧AG w w'∧RN [] (AX (AX rI)) w'.heap v0 (IS T.code (B5 2 (Cc a d 2) T.code) oT ws)∧C8 v0):=by
 refine Ap [.agg #[zI ipT,vtc,vtg,vtx],va,vw,vd] 36 Tryz.func105 Z Z sM ?_
 have ak:AG w w:=AG.refl w
 have hl_vtx:=htoT.lenL
 unfold maxLen at hl_vtx
 have ay:=ha.lenle
 have az:=hws.lenle
 have b0:=hd.lenle
 have hK:=hR.k
 have hni:=hK.nb
 have hcl:=hK.cl
 have b2:=hK.gl
 have hol:=hK.ol
 have hpos:=hK.pos
 refine aH [3,0,0] Z (Bu (cs:=#[zI ipT,vtc,vtg,vtx]) Z Aa fun w1 aj ax ab=>?_)
 have al:=aj.size
 have a3:=ak.trans aj
 replace ab:BX w1.heap w.heap.size [zI ipT,vtc,vtg,vtx]:=ab
 refine Ac 2 Z<|A0<|aH [2,0,0,0,3,0] Z<|AL (p:=zP w.heap.size) (.inr Z) [zI ipT,vtc,vtg,vtx] DY Z (fun b1 a5=>LD.of_box<|BX.ext (w:=w1) ab a5) Z Aa<|Ad 3 Z<|Au 183 [] [] [.agg #[zI ipT,vtc,vtg,vtx],va,vw,vd] Z Z Yd Aa (Lg _ (ipT) vtc vtg vtx (T) (oT) _ _ _ _ _ _ _hipT (htcT.ext (An B4) a3) (htgT.ext (An Bd) a3) (htoT.ext g1 a3) (ha.ext g1 a3) (hws.ext g1 a3) (hd.ext g1 a3) oM hR hw hdd) ?_
 rintro e2 w2 ⟨rfl,ac⟩
 refine⟨_,rfl,ac,?_⟩
 have am:=ac.size
 have ag:=a3.trans ac
 have a2:=ab.ext ac
 refine Ac 1 Z<|aH [0,0] Z<|Ad 1 Z ?_
 have an:¬(0≠((0:Nat):Int)):=(fun h9=>h9 Z)
 refine B3 false Z Z (A6 an) Aa<|Aj<|Ai Z<|A2<|A0<|AQ _ [1,0,0,3,3,0,0,0,0,0] mixed (by kernel_rfl)<|AL (p:=zP w.heap.size) (.inl Z) [zI ipT,vtc,vtg,vtx] DY Z (fun b1 a5=>LD.of_box<|BX.ext (w:=w2.drew) a2 a5) Z Aa<|Ad 2 Z<|Au 110 [] [] [va,vd] Z Z Uv Aa (J4 _ _ _ _ _ (ha.ext g1 ag.drew) (hd.ext g1 ag.drew) oM oM) ?_
 rintro e4 w4 ⟨a6,rfl,a4,a0⟩
 refine⟨_,rfl,a4,?_⟩
 replace a4:=a4.of_drew
 have ao:=a4.size
 have ad:=ag.trans a4
 have a7:=a2.ext a4
 replace a0:=a0.low (B':=w2.heap.size)<|A7 _
 refine Au 109 [] [] [.agg #[zI ipT,vtc,vtg,vtx],a6,zI ((1:Nat):Int)] Z Z Uu Aa (DZ _ (ipT) vtc vtg vtx (T) (oT) a6 (Cc a d 2) ((1:Nat):Int) _hipT (htcT.ext (An B4) ad) (htgT.ext (An Bd) ad) (htoT.ext g1 ad) (RN.of_fr2 a0 fun b hb=>absurd hb z2) a0.cap oM oM (by exact Dt hR.n hdd.2) (by intro k hk;rw[BK];exact hR.k.form k hk) oM) ?_
 rintro e5 w5 ⟨v5,c5,rfl,ae,a8,ah⟩
 refine⟨_,rfl,ae,?_⟩
 have ap:=ae.size
 have a9:=ad.trans ae
 have aa:=a7.ext ae
 have aq:c5=0∨c5=6:=by unfold VT at a8;omega
 have hcz:c5=0:=by rcases a8 with h9|h9;exact h9.1;exact absurd (hR.nz hdd.2) h9.2
 obtain⟨a1,hrvc⟩:=ah hcz
 replace a1:RN [] (AX (AX rI)) w5.heap v5 (B5 2 (Cc a d 2) T.code):=a1
 refine Ad 1 Z<|AP (vs:=[v5,zI c5]) v5 Z Z Aa<|AP (vs:=[v5,zI c5]) (zI c5) Z Z Aa<|Ac 2 Z<|A0<|aH [0,0] Z<|Ad 1 Z ?_
 have ar:¬(c5≠((0:Nat):Int)):=(fun h9=>h9 hcz)
 refine B3 false Z Z (A6 ar) Aa<|Aj<|Ai Z<|A2<|aH [2,0,0,3,0,0] Z<|AL (p:=zP w.heap.size) (.inr Z) [zI ipT,vtc,vtg,vtx] DY Z (fun b1 a5=>LD.of_box<|BX.ext (w:=w5) aa a5) Z Aa<|Ad 2 Z<|Au 184 [] [] [.agg #[zI ipT,vtc,vtg,vtx],v5,vw] Z Z Ye Aa (Hm _ 2 a.length [] (ipT) vtc vtg vtx (T) (oT) v5 (B5 2 (Cc a d 2) T.code) vw (ws) (fun b hb=>absurd hb z2) _hipT (htcT.ext (An B4) a9) (htgT.ext (An Bd) a9) (htoT.ext g1 a9) a1 hrvc (hws.ext g1 a9) oM (by exact hR.reg hdd.2) (by rw[BG]) oM oM hR.k.out hw.2 hR.k.form) ?_
 rintro e7 w7 ⟨v7,rfl,af,au,ai⟩
 refine⟨_,rfl,af,?_⟩
 have av:=af.size
 have aw:=a9.trans af
 exact Ac 2 Z<|A1<|Af [8,9] Z (.tuple #[v7,zI ((0:Nat):Int)]) Z ⟨_,rfl,aw,au,ai⟩
theorem Iv (w:World)(ipT:Int)(vtc vtg vtx:Value)(T:Tp)(oT:Sr)(va:Value)(a:Sr)(vw:Value)(ws:Sr)(_hipT:Bt ipT)(htcT:RN [] (Dw 4 No) w.heap vtc T.code)(htgT:RN [] (Dw 2 Np) w.heap vtg T.grd)(htoT:RN [] (AX rI) w.heap vtx oT)(ha:Rd (AX rI) w.heap va a)(hws:Rd (AX rI) w.heap vw ws)(hip:ipT=(a.length:Int))(hR:Qe a T oT)(hw:ws.length=oT.length∧B2 ws=true) :
  Calls Tryz.prog 31 #[(.agg #[(zI ipT),vtc,vtg,vtx]),va,vw] w (fun e w'=>∃v0:Value,e=.returned (.tuple #[v0,zI 0])∧AG w w'∧Fr (Bi rI 2) w.heap.size w'.heap.size w'.heap v0 (DG (Kl 2 T oT ws (Cc a a 2)))):=by
 refine Ap [.agg #[zI ipT,vtc,vtg,vtx],va,vw] 25 Tryz.func31 Z Z sM ?_
 have af:AG w w:=AG.refl w
 have hl_vtx:=htoT.lenL
 unfold maxLen at hl_vtx
 have al:=ha.lenle
 have ap:=hws.lenle
 have hK:=hR.k
 have hni:=hK.nb
 have hcl:=hK.cl
 have ar:=hK.gl
 have hol:=hK.ol
 have hpos:=hK.pos
 refine aH [3,0,0] Z (Bu (cs:=#[zI ipT,vtc,vtg,vtx]) Z Aa fun w1 ab ao a5=>?_)
 have ag:=ab.size
 have a0:=af.trans ab
 replace a5:BX w1.heap w.heap.size [zI ipT,vtc,vtg,vtx]:=a5
 refine Ac 2 Z<|aH [2,0,0,0,3,0,0,0,0,0] Z<|AL (p:=zP w.heap.size) (.inr Z) [zI ipT,vtc,vtg,vtx] DY Z (fun aq a9=>LD.of_box<|BX.ext (w:=w1) a5 a9) Z Aa<|Ad 3 Z<|Au 105 [] [] [.agg #[zI ipT,vtc,vtg,vtx],va,vw,va] Z Z XY Aa (MW _ (ipT) vtc vtg vtx (T) (oT) va (a) vw (ws) va (a) _hipT (htcT.ext (An B4) a0) (htgT.ext (An Bd) a0) (htoT.ext g1 a0) (ha.ext g1 a0) (hws.ext g1 a0) (ha.ext g1 a0) oM hR hw (by exact⟨rfl,hR.n⟩)) ?_
 rintro e2 w2 ⟨v2,rfl,a6,ac,aa⟩
 refine⟨_,rfl,a6,?_⟩
 have ah:=a6.size
 have a7:=a0.trans a6
 have a1:=a5.ext a6
 refine Ad 1 Z<|AP (vs:=[v2,zI 0]) v2 Z Z Aa<|AP (vs:=[v2,zI 0]) (zI 0) Z Z Aa<|Ac 2 Z<|A0<|aH [0,0] Z<|Ad 1 Z ?_
 have ai:¬(0≠((0:Nat):Int)):=(fun h9=>h9 Z)
 refine B3 false Z Z (A6 ai) Aa<|Aj<|Ai Z<|A2<|aH [2,0,3,3,0,0] Z<|AL (p:=zP w.heap.size) (.inr Z) [zI ipT,vtc,vtg,vtx] DY Z (fun aq a9=>LD.of_box<|BX.ext (w:=w2) a1 a9) Z Aa<|Ad 1 Z<|Au 107 [] [] [.agg #[zI ipT,vtc,vtg,vtx],v2] Z Z XZ Aa (Hn _ 2 a.length [] (ipT) vtc vtg vtx (T) (oT) v2 (IS T.code (B5 2 (Cc a a 2) T.code) oT ws) (fun b hb=>absurd hb z2) _hipT (htcT.ext (An B4) a7) (htgT.ext (An Bd) a7) (htoT.ext g1 a7) ac aa oM oM (by exact hR.adj hR.n) (by rw[S5,BG];omega) oM hR.k.form) ?_
 rintro e4 w4 ⟨v4,rfl,a8,ad,aj⟩
 refine⟨_,rfl,a8,?_⟩
 have ak:=a8.size
 have ae:=a7.trans a8
 refine Au 106 [] [] [v4] Z Z Us Aa (HU _ _ _ (ad).rd (by rw[Pv];omega) (by intro k hk;have h9:=((Pu hR.k.form:C0 2 (TD a.length 2 T.code<|IS T.code (B5 2 (Cc a a 2) T.code) oT ws)) k hk).1;omega)) ?_
 rintro e6 w6 ⟨a2,rfl,a3,a4⟩
 refine⟨_,rfl,a3,?_⟩
 have am:=a3.size
 have an:=ae.trans a3
 exact Ac 2 Z<|A1<|Af [6,7] Z (.tuple #[a2,zI ((0:Nat):Int)]) Z ⟨a2,rfl,an,(by first|(unfold DG Kl;rw[BK];exact(a4.up o1).low ae.size)|(exfalso;omega))⟩
theorem TV (w:World)(S:List Nat)(vl:Value)(L:List (Sr))(vp:Value)(ps:Sr)(ai:∀b∈S,b<w.heap.size)(hL:RN S (AX (AX rI)) w.heap vl L)(hqL:C8 vl)(hps:Rd (AX rI) w.heap vp ps)(hp:∀k,k<ps.length→0≤ps.getD k 0∧ps.getD k 0<(L.length:Int))(hpl:ps.length≤1000000) :
  Calls Tryz.prog 111 #[vl,vp] w (fun e w'=>∃v0:Value,e=.returned v0∧AG w w'∧RN S (AX (AX rI)) w'.heap v0 (Ok L ps)∧C8 v0):=by
 refine Ap [vl,vp] 24 Tryz.func111 Z Z sM ?_
 have ab:AG w w:=AG.refl w
 have az:=hL.lenL
 unfold maxLen at az
 have b0:=hps.lenle
 refine aI Z<|aH [3,0] Z ?_
 obtain⟨BO,hBO⟩:∃b:Nat,b=w.heap.size:=⟨_,rfl⟩
 have hwB:w.heap.size≤BO:=by omega
 refine Ch rV Bs BH B9 Aa fun v1 w1 a2 aj a3=>?_
 have a4:=a2.size
 have ac:=ab.trans a2
 obtain⟨ar,F1,au⟩:=GR.nil (S:=S) (by rw[← hBO]at a3;exact a3)
 refine Ac 1 Z<|A0<|aH [0,0,0] Z<|Ad 1 Z<|AO (v:=vp) Bj Z hps.isSl Aa<|Ac 1 Z<|A3<|AW (S:=Nat×Value) (fun⟨k,vo⟩=>([(5,vo),(11,zI (k:Int)),(0,vl),(9,vp),(10,zI (ps.length:Int))])) (fun⟨k,vo⟩ W=>AG w W∧k≤ps.length∧w.heap.size≤BO∧BO≤W.heap.size∧N7 27 S BO W.heap vo (Ok L<|ps.take k)) (fun⟨k,vo⟩=>ps.length-k) (0,v1) ⟨rfl,rfl,rfl,rfl,rfl,trivial⟩ ⟨ac,oM,oM,oM,(by exact⟨_,_,by assumption⟩)⟩ ?_
 clear ab a3 aj a2 a4 ac
 rintro⟨k,vo⟩ ρ2 w2 ⟨a1,ad,ae,af,hbld⟩
 have ak:w.heap.size≤w2.heap.size:=a1.size
 have hpkl:(Ok L (ps.take k)).length=k:=by unfold Ok;rw[zg,List.length_take];omega
 obtain⟨av,F3,a0⟩:=hbld
 have hFl:∀b∈F3,b<w2.heap.size:=a0.lt
 refine aH [0] Z ?_
 by_cases ag:(k:Int)<(ps.length:Int)
 ·refine AE true Z Z (A5 ag) Aa<|Aj<|A0<|Ag Z<|A2<|A0<|A3<|aH [0,2,0] Z<|Az (v:=vp) k Bj Bz Z Z hps.isSl Z sD Aa ?_
  refine Ah (p:=Ax vp k 1) (.inr Z) (zI<|ps.getD k 0) AC Z (Bc a1 (hps.getI sD).1) Aa<|Ac 1 Z<|Ab _ [0,0,0,0,2,3,4,0] Z ?_
  have hpk:=hp k oM
  refine Ad 3 Z<|Az (v:=vl) ((ps.getD k 0).toNat) BH B9 Z Z hL.slL oM sD Aa ?_
  obtain⟨a5,al,a6⟩:=RN.getL (w:=w) g1 [] (k:=(ps.getD k 0).toNat) hL sD
  have a7:=a6.lenL
  unfold maxLen at a7
  refine Ah (p:=Ax vl ((ps.getD k 0).toNat) 1) (.inr Z) a5 Bk Z (al _<|As.of_ext S a1) Aa (BI (u:=a5) (B:=w2.heap.size) Bs BH B9 Z Z (NS w2.heap.size w2.heap.size _<|a6.one1 g1) (A7 _) Aa fun v6 w6 a8 aw am=>?_)
  have an:=a8.size
  have a9:=a1.trans a8
  have aa:=a0.ext a8
  refine E2 (v:=vo) (a:=v6) (u:=a5) BH B9 Z Z Z aa oM am (RN.stp g1 a6 (As.of_ext S a9) fun b hb=>(zi.1 hb).elim .inl fun hb=>.inr (zH<|aa.low b hb)) sD (by unfold maxLen;first|omega|assumption|(simp;done)|(simp;omega)) Aa ?_
  rintro v8 w8 G8 ah ao ⟨ax,F8,ay⟩
  have ap:w6.heap.size≤w8.heap.size:=ah.size
  have aq:AG w w8:=ah.below a9 (fun c hc=>A8 hwB (aa.low c (ao c hc))) a9.size
  exact Ac 1 Z<|Ab _ [0,0] Z<|AN ((k+1:Nat):Int) Z Z (Be oM sD) Aa<|Ac 1 Z ⟨(k+1,v8),_,rfl,zR,⟨aq,oM,oM,oM,(by rw[S4 oM];exact⟨_,_,by assumption⟩)⟩,zD⟩
 exact AE false Z Z (A6 ag) Aa<|Aj<|A0<|Ai Z<|A4<|Av<|Av<|Aq<|aH [0,0] Z<|Ac 2 Z<|A1<|Af [4] Z vo Z ⟨_,rfl,a1,(by have h9:=(a0.done fun b hb=>zH<|ai b hb);rw[za oM]at h9;exact h9),a0.cap⟩
theorem Md {p:Prop}(h:p:=by unfold maxLen;first|omega|assumption|(simp only[zb,z9,z4,z6,z5];omega)|(simp[zb,z9,z4,z6,z5];done)|(simp[zb,z9,z4,z6,z5];omega)):p:=h
theorem Iw (w:World)(ipT:Int)(vtc vtg vtx:Value)(T:Tp)(oT:Sr)(va:Value)(a:Sr)(vd:Value)(d:Sr)(_hipT:Bt ipT)(htcT:RN [] (Dw 4 No) w.heap vtc T.code)(htgT:RN [] (Dw 2 Np) w.heap vtg T.grd)(htoT:RN [] (AX rI) w.heap vtx oT)(ha:Rd (AX rI) w.heap va a)(hd:Rd (AX rI) w.heap vd d)(hip:ipT=(a.length:Int))(hR:Qe a T oT)(hdd:d.length=a.length∧B2 d=true) :
  Calls Tryz.prog 32 #[(.agg #[(zI ipT),vtc,vtg,vtx]),va,vd] w (fun e w'=>∃v0 v1:Value,e=.returned (.tuple #[v0,v1,zI 0])∧AG w w'∧Fr (Bi rI 2) w.heap.size w'.heap.size w'.heap v0 (DG (Ok (B5 2 (Cc a d 2) T.code) oT))∧Fr (Bi rI 2) w.heap.size w'.heap.size w'.heap v1 (MD (Ok (B5 2 (Cc a d 2) T.code) oT))):=by
 refine Ap [.agg #[zI ipT,vtc,vtg,vtx],va,vd] 61 Tryz.func32 Z Z sM ?_
 have em:AG w w:=AG.refl w
 have hl_vtx:=htoT.lenL
 unfold maxLen at hl_vtx
 have ff:=ha.lenle
 have fg:=hd.lenle
 have hK:=hR.k
 have hni:=hK.nb
 have hcl:=hK.cl
 have gw:=hK.gl
 have hol:=hK.ol
 have hpos:=hK.pos
 refine aH [3,0,0,0] Z (Bu (cs:=#[zI ipT,vtc,vtg,vtx]) Z Aa fun w1 d1 g6 cx=>?_)
 have d2:=d1.size
 have cy:=em.trans d1
 replace cx:BX w1.heap w.heap.size [zI ipT,vtc,vtg,vtx]:=cx
 refine Ac 3 Z<|A0<|aH [2,0,0,3,3,0] Z<|AL (p:=zP w.heap.size) (.inr Z) [zI ipT,vtc,vtg,vtx] DY Z (fun fq d3=>LD.of_box<|BX.ext (w:=w1) cx d3) Z Aa<|Ad 2 Z (PD (x0:=a) (x1:=d) BH B9 Z Z Z (RN.of<|ha.ext g1 cy) (RN.of<|hd.ext g1 cy) Aa fun v2 w2 cz g7 en g8=>?_)
 have d4:=cz.size
 have bu:=cy.trans cz
 have bv:=cx.ext cz
 refine Au 108 [] [] [.agg #[zI ipT,vtc,vtg,vtx],v2] Z Z Ut Aa (J3 _ a (ipT) vtc vtg vtx (T) (oT) v2 ([a,d]) _hipT (htcT.ext (An B4) bu) (htgT.ext (An Bd) bu) (htoT.ext g1 bu) en g8 oM hR (by intro k hk;match k,hk with|0,_=>exact⟨rfl,hR.n⟩|1,_=>exact hdd)) ?_
 rintro e3 w3 ⟨rfl,bt⟩
 refine⟨_,rfl,bt,?_⟩
 have d5:=bt.size
 have d0:=bu.trans bt
 have bd:=bv.ext bt
 have g9:=en.ext g2 bt
 refine Ac 1 Z<|aH [0,0] Z<|Ad 1 Z ?_
 have ga:¬(0≠((0:Nat):Int)):=(fun h9=>h9 Z)
 refine B3 false Z Z (A6 ga) Aa<|Aj<|Ai Z<|A2<|A0<|AQ _ [1,0,0,3,3,0,0,0,0,0] mixed (by kernel_rfl)<|AL (p:=zP w.heap.size) (.inl Z) [zI ipT,vtc,vtg,vtx] DY Z (fun fq d3=>LD.of_box<|BX.ext (w:=w3.drew) bd d3) Z Aa<|Ad 2 Z<|Au 110 [] [] [va,vd] Z Z Uv Aa (J4 _ _ _ _ _ (ha.ext g1 d0.drew) (hd.ext g1 d0.drew) oM oM) ?_
 rintro e6 w6 ⟨bw,rfl,be,a6⟩
 refine⟨_,rfl,be,?_⟩
 replace be:=be.of_drew
 have d6:=be.size
 have bx:=d0.trans be
 have bz:=bd.ext be
 have gb:=g9.ext g2 be
 replace a6:=a6.low (B':=w3.heap.size)<|A7 _
 refine Au 109 [] [] [.agg #[zI ipT,vtc,vtg,vtx],bw,zI ((1:Nat):Int)] Z Z Uu Aa (DZ _ (ipT) vtc vtg vtx (T) (oT) bw (Cc a d 2) ((1:Nat):Int) _hipT (htcT.ext (An B4) bx) (htgT.ext (An Bd) bx) (htoT.ext g1 bx) (RN.of_fr2 a6 fun b hb=>absurd hb z2) a6.cap oM oM (by exact Dt hR.n hdd.2) (by intro k hk;rw[BK];exact hR.k.form k hk) oM) ?_
 rintro e8 w8 ⟨v8,c8,rfl,bf,c0,d7⟩
 refine⟨_,rfl,bf,?_⟩
 have gc:=bf.size
 have c1:=bx.trans bf
 have c2:=bz.ext bf
 have av:=a6.ext (o2) bf
 have gd:=gb.ext g2 bf
 have ge:c8=0∨c8=6:=by unfold VT at c0;omega
 have hcz:c8=0:=by rcases c0 with h9|h9;exact h9.1;exact absurd (hR.nz hdd.2) h9.2
 obtain⟨b8,hrvc⟩:=d7 hcz
 replace b8:RN [] (AX (AX rI)) w8.heap v8 (B5 2 (Cc a d 2) T.code):=b8
 refine Ad 1 Z<|AP (vs:=[v8,zI c8]) v8 Z Z Aa<|AP (vs:=[v8,zI c8]) (zI c8) Z Z Aa<|Ac 2 Z<|A0<|aH [0,0] Z<|Ad 1 Z ?_
 have d8:¬(c8≠((0:Nat):Int)):=(fun h9=>h9 hcz)
 refine B3 false Z Z (A6 d8) Aa<|Aj<|Ai Z<|A2<|aH [3,3,0,0] Z ?_
 have c3:=AG.refl w8
 refine Ch (rI) AK Bj Bz Aa fun fs fh aa d9 c4=>?_
 have eo:=aa.size
 have b6:=c1.trans aa
 have da:=c3.trans aa
 have bg:=c2.ext aa
 have ab:=av.ext (o2) aa
 have db:=gd.ext g2 aa
 have dc:=b8.ext g2 aa
 refine Ch (rI) AK Bj Bz Aa fun ft fu a9 dd c5=>?_
 have c6:=a9.size
 have bh:=b6.trans a9
 have c7:=da.trans a9
 have bi:=bg.ext a9
 have ac:=ab.ext (o2) a9
 have aw:=c4.ext (o1) a9
 have de:=db.ext g2 a9
 have df:=dc.ext g2 a9
 refine Ac 2 Z<|A0<|aH [0,0,2,3,0,0] Z ?_
 obtain⟨Fq0,hoq⟩:=Ow.of_fr aw (A7 _)
 obtain⟨Fr0,hor⟩:=Ow.of_fr c5 (A7 _)
 have hdqr:∀b∈Fq0,b∉Fr0:=fun b hb hm=>by have:=hoq.high b hb;have:=hor.low b hm;omega
 have hFhi:∀b∈Fq0++Fr0,b<fu.heap.size:=fun b hb=>(zi.1 hb).elim (fun h=>zH<|hoq.high b h) (fun h=>zH<|hor.high b h)
 have hFlo:∀b∈Fq0++Fr0,w8.heap.size≤b:=fun b hb=>(zi.1 hb).elim (fun h=>zH<|hoq.low b h) (fun h=>zH<|hor.low b h)
 refine Ad 1 Z<|Ak (p:=zP w.heap.size) 3 Js Z Z Aa<|Ah (p:=Ao (zP w.heap.size) 3) (.inr Z) vtx Bk Z (bi.ldp (i:=3) sM) Aa<|Au 111 [] [] [v8,vtx] Z Z Y0 Aa (TV _ (Fq0++Fr0) v8 (B5 2 (Cc a d 2) T.code) vtx oT (fun b hb=>zH<|hFhi b hb) (RN.stp g2 b8 (As.of_ext [] c7) fun b hb=>.inr<|hFlo b hb) hrvc (htoT.ext g1 bh).rd (by intro q hq;rw[BG];exact hR.k.out q hq) oM) ?_
 rintro gx gy ⟨f4,rfl,a5,c9,ep⟩
 refine⟨_,rfl,a5,?_⟩
 have ca:=a5.size
 have cb:=bh.trans a5
 have gf:=c7.trans a5
 have b7:=ac.ext (o2) a5
 have bj:=hoq.ext (o1) a5
 have bk:=hor.ext (o1) a5
 have gg:=de.ext g2 a5
 have gh:=df.ext g2 a5
 obtain⟨LQ,hLQ⟩:∃l:List Sr,l=Ok (B5 2 (Cc a d 2) T.code) oT:=⟨_,rfl⟩
 rw[← hLQ]at c9
 have hLl:LQ.length=oT.length:=by rw[hLQ];unfold Ok;rw[zg]
 have hLs:∀k,k<LQ.length→(LQ.getD k []).length=2:=fun k hk=>by have h9:=hR.k.out k oM;rw[hLQ];unfold Ok;rw[BZ (d:=0) oM];exact(hR.reg hdd.2 _ (by rw[BG];omega)).1
 refine AO (v:=f4) BH Z c9.slL Aa<|Ac 1 Z<|A3 ?_
 refine AW (S:=Nat×Value×Value×List Nat×List Nat) (fun⟨k,va,vb,Fa,Fb⟩=>([(12,va),(13,vb),(42,zI (k:Int)),(40,f4),(41,zI (LQ.length:Int))])) (fun⟨k,va,vb,Fa,Fb⟩ W=>AG w W∧Ow (Bi rI 2) w8.heap.size W.heap.size W.heap va ((LQ.take k).map fun s=>s.getD 0 0) Fa∧Ow (Bi rI 2) fh.heap.size W.heap.size W.heap vb ((LQ.take k).map fun s=>s.getD 1 0) Fb∧(∀b∈Fa,b∉Fb)∧k≤LQ.length∧RN (Fa++Fb) (AX<|AX rI) W.heap f4 LQ∧w8.heap.size≤W.heap.size∧fh.heap.size≤W.heap.size) (fun⟨k,va,vb,Fa,Fb⟩=>LQ.length-k) (0,fs,ft,Fq0,Fr0) ⟨rfl,rfl,rfl,rfl,rfl,trivial⟩ ⟨cb,bj.up oM,bk.up oM,hdqr,oM,(by assumption),oM,oM⟩ ?_
 clear em g6 d1 d2 cy g7 cz d4 bu bt d5 d0 a6 be d6 bx bf av c4 d9 aa ab c5 dd a9 c6 bh ac aw a5 ca cb b7
 rintro⟨k,va,vb,Fa,Fb⟩ ρ21 f0 ⟨b9,al,am,a2,dg,hlq,eq,er⟩
 have es:w.heap.size≤f0.heap.size:=b9.size
 refine aH [0] Z ?_
 by_cases cc:(k:Int)<(LQ.length:Int)
 ·refine AE true Z Z (A5 cc) Aa<|Aj<|A0<|Ag Z<|A2<|A0<|A3<|aH [0,2,0] Z<|Az (v:=f4) k BH B9 Z Z hlq.slL Z sD Aa ?_
  obtain⟨an,dh,ao⟩:=RN.getL (w:=f0) g1 [] (k:=k) hlq sD
  have cd:=ao.lenL
  unfold maxLen at cd
  refine Ah (p:=Ax f4 k 1) (.inr Z) an Bk Z (dh _<|As.refl _ _) Aa<|Ac 1 Z ?_
  letI:JR:=QB (Fa++Fb)
  refine Jx.Xu _ [0,0,0,1,3,3,0,0,0,1,3,3,0,0] [0,1,2,3,6,7,8,9] 4 5 [10,11,12,13] 10 [5,11,12,13] 10 [4,5,11,12,13] [_,_,_,_,_,_,_,_] [0,0,0,1,0,0,0,1] _ _ [_,_,_,_] [3,3,0,0] _ [_,_,_,_] [3,3,0,0] _ [_,_,_,_,_] [3,3,3,0,0] mixed (by kernel_rfl) ⟨rfl,rfl,⟨rfl,rfl,⟨rfl,rfl,⟨rfl,rfl,⟨rfl,rfl,⟨rfl,rfl,⟨rfl,rfl,⟨rfl,rfl,trivial⟩⟩⟩⟩⟩⟩⟩⟩ ⟨rfl,rfl,trivial⟩ ⟨rfl,rfl,⟨rfl,rfl,⟨rfl,rfl,⟨rfl,rfl,⟨rfl,rfl,trivial⟩⟩⟩⟩⟩ ⟨rfl,rfl,⟨rfl,rfl,⟨rfl,rfl,⟨rfl,rfl,⟨rfl,rfl,trivial⟩⟩⟩⟩⟩ ⟨rfl,rfl,⟨rfl,rfl,⟨rfl,rfl,⟨rfl,rfl,⟨rfl,rfl,⟨rfl,rfl,trivial⟩⟩⟩⟩⟩⟩ ?_
  have hrw:=hLs k oM
  refine Jx.V0 va Z Aa<|Jx.V0 an Z Aa<|Jx.Az (v:=an) 0 Bj Bz Z Z ao.slL Z sD Aa ?_
  have bl:=RN.getI (w:=f0.drew) (k:=0) ao sD
  refine Jx.Z5 (p:=Ax an 0 1) (zI<|(LQ.getD k []).getD 0 0) AC Z (fun wj hj=>bl.1 wj hj) Aa<|Jx.V0 vb Z Aa<|Jx.V0 an Z Aa<|Jx.Az (v:=an) 1 Bj Bz Z Z ao.slL Z sD Aa ?_
  have ba:=RN.getI (w:=f0.drew) (k:=1) ao sD
  refine Jx.Z5 (p:=Ax an 1 1) (zI<|(LQ.getD k []).getD 1 0) AC Z (fun wj hj=>ba.1 wj hj) Aa<|Jx.Aj ⟨?_,?_⟩
  ·refine Jx.BI (u:=zI<|(LQ.getD k []).getD 0 0) (B:=f0.heap.size) AK Bj Bz Z Z (Lh f0.heap.size f0.heap.size _ _ bl.2) (A7 _) Aa fun fi f6 ad gi ce=>?_
   replace ad:=ad.of_drew
   have et:=ad.size
   have bm:=b9.trans ad
   have a3:=al.ext (o1) ad
   have a4:=am.ext (o1) ad
   have cf:=hlq.ext g2 ad
   have cg:=ao.ext g1 ad
   refine Jx.Aj ⟨?_,?_⟩
   ·refine Jx.aM (HD (v:=va) (a:=fi) Bj Bz Z Z Z a3 ce oM oM oM sD Md Aa fun fj f5 f1 az di bn=>?_)
    have eu:f6.heap.size≤f5.heap.size:=az.size
    have dj:AG w f5:=az.below bm (fun c hc=>A8 c1.size (a3.low c (zj hc))) bm.size
    have dk:=a4.keep (o1) az fun c hc hm=>a2 c (zj hc) hm
    have ch:∀b∈f1,b∉Fb:=fun b hb hm=>(bn b hb).elim (fun hh=>a2 b hh hm) (fun hh=>zH<|a4.high b hm)
    have dl:=RN.stp (S':=f1++Fb) g2 cf (az.sub fun c hc=>z8 _<|zj hc) fun b hb=>(zi.1 hb).elim (fun h=>(bn b h).imp (fun h=>z8 _ h) id) fun h=>.inl<|z1 _ h
    have dm:=RN.stp (S':=f1++Fb) g1 cg (az.sub fun c hc=>z8 _<|zj hc) fun b hb=>(zi.1 hb).elim (fun h=>(bn b h).imp (fun h=>z8 _ h) id) fun h=>.inl<|z1 _ h
    have ae:As (Fa++Fb) _ _:=az.sub (fun c hc=>z8 _ (zj hc))
    refine Aj ⟨⟨ae.os,ae.tape,ae.output,ae.size,ae.block⟩,?_⟩
    refine Jx.BI (u:=zI<|(LQ.getD k []).getD 1 0) (B:=f5.heap.size) AK Bj Bz Z Z (Lh f5.heap.size f5.heap.size _ _ ba.2) (A7 _) Aa fun fv fw b0 gj dn=>?_
    have ev:=b0.size
    have ci:=dj.trans b0
    have ax:=dk.ext (o1) b0
    have ay:=di.ext (o1) b0
    have dp:=dl.ext g2 b0
    have dq:=dm.ext g1 b0
    refine Jx.aM (HD (v:=vb) (a:=fv) Bj Bz Z Z Z ax dn oM oM oM sD Md Aa fun fk f7 f8 b1 dr bo=>?_)
    have ew:fw.heap.size≤f7.heap.size:=b1.size
    have ds:AG w f7:=b1.below ci (fun c hc=>A8 b6.size (ax.low c (zj hc))) ci.size
    have dt:=ay.keep (o1) b1 fun c hc hm=>(fun b hb hm=>ch b hm hb) c (zj hc) hm
    have du:∀b∈f8,b∉f1:=fun b hb hm=>(bo b hb).elim (fun hh=>(fun b hb hm=>ch b hm hb) b hh hm) (fun hh=>zH<|ay.high b hm)
    have gk:=RN.stp (S':=f1++f8) g2 dp (b1.sub fun c hc=>z1 _<|zj hc) fun b hb=>(zi.1 hb).elim (fun h=>.inl<|z8 _ h) fun h=>(bo b h).imp (fun h=>z1 _ h) id
    have gm:=RN.stp (S':=f1++f8) g1 dq (b1.sub fun c hc=>z1 _<|zj hc) fun b hb=>(zi.1 hb).elim (fun h=>.inl<|z8 _ h) fun h=>(bo b h).imp (fun h=>z1 _ h) id
    have af:As (Fa++Fb) _ _:=b1.sub (fun c hc=>z1 _ (zj hc))
    refine Aj ⟨⟨af.os,af.tape,af.output,af.size,af.block⟩,?_⟩
    refine Jx.Qq fj Z Aa<|Jx.Qq fk Z Aa<|Jx.Aj<|Ab _ [0,0] Z<|AN ((k+1:Nat):Int) Z Z (Be oM sD) Aa<|Ac 1 Z ?_
    exact⟨(k+1,fj,fk,f1,f8),_,rfl,zR,⟨ds,(by have h:=dt.up (T':=f7.heap.size) oM;rw[CS [] oM];exact h),(by have h:=dr.up (T':=f7.heap.size) oM;rw[CS [] oM];exact h),(fun b hb hm=>du b hm hb),oM,(by assumption),oM,oM⟩,zD⟩
   refine Jx.BI (u:=zI<|(LQ.getD k []).getD 1 0) (B:=f6.heap.size) AK Bj Bz Z Z (Lh f6.heap.size f6.heap.size _ _ ba.2) (A7 _) Aa fun fx fy ap gn dv=>?_
   have ex:=ap.size
   have cj:=bm.trans ap
   have a0:=a3.ext (o1) ap
   have a7:=a4.ext (o1) ap
   have bb:=ce.ext (o1) ap
   have dw:=cf.ext g2 ap
   have dx:=cg.ext g1 ap
   refine Jx.aM (HD (v:=va) (a:=fi) Bj Bz Z Z Z a0 bb oM oM oM sD Md Aa fun fl fd f2 aq ck bp=>?_)
   have ey:fy.heap.size≤fd.heap.size:=aq.size
   have cm:AG w fd:=aq.below cj (fun c hc=>A8 c1.size (a0.low c (zj hc))) cj.size
   have cn:=a7.keep (o1) aq fun c hc hm=>a2 c (zj hc) hm
   have co:∀b∈f2,b∉Fb:=fun b hb hm=>(bp b hb).elim (fun hh=>a2 b hh hm) (fun hh=>zH<|a7.high b hm)
   have dy:=dv.chg (o1) aq fun c hc=>by have:=a0.high c (zj hc);have:=a0.low c (zj hc);omega
   have dz:=RN.stp (S':=f2++Fb) g2 dw (aq.sub fun c hc=>z8 _<|zj hc) fun b hb=>(zi.1 hb).elim (fun h=>(bp b h).imp (fun h=>z8 _ h) id) fun h=>.inl<|z1 _ h
   have e0:=RN.stp (S':=f2++Fb) g1 dx (aq.sub fun c hc=>z8 _<|zj hc) fun b hb=>(zi.1 hb).elim (fun h=>(bp b h).imp (fun h=>z8 _ h) id) fun h=>.inl<|z1 _ h
   have ag:As (Fa++Fb) _ _:=aq.sub (fun c hc=>z8 _ (zj hc))
   refine Aj ⟨⟨ag.os,ag.tape,ag.output,ag.size,ag.block⟩,?_⟩
   refine Jx.aM (HD (v:=vb) (a:=fx) Bj Bz Z Z Z cn dy oM oM oM sD Md Aa fun fm f9 fa b2 e1 bq=>?_)
   have ez:fd.heap.size≤f9.heap.size:=b2.size
   have e2:AG w f9:=b2.below cm (fun c hc=>A8 b6.size (cn.low c (zj hc))) cm.size
   have e4:=ck.keep (o1) b2 fun c hc hm=>(fun b hb hm=>co b hm hb) c (zj hc) hm
   have e5:∀b∈fa,b∉f2:=fun b hb hm=>(bq b hb).elim (fun hh=>(fun b hb hm=>co b hm hb) b hh hm) (fun hh=>zH<|ck.high b hm)
   have go:=RN.stp (S':=f2++fa) g2 dz (b2.sub fun c hc=>z1 _<|zj hc) fun b hb=>(zi.1 hb).elim (fun h=>.inl<|z8 _ h) fun h=>(bq b h).imp (fun h=>z1 _ h) id
   have gp:=RN.stp (S':=f2++fa) g1 e0 (b2.sub fun c hc=>z1 _<|zj hc) fun b hb=>(zi.1 hb).elim (fun h=>.inl<|z8 _ h) fun h=>(bq b h).imp (fun h=>z1 _ h) id
   have ah:As (Fa++Fb) _ _:=b2.sub (fun c hc=>z1 _ (zj hc))
   refine Aj ⟨⟨ah.os,ah.tape,ah.output,ah.size,ah.block⟩,?_⟩
   refine Jx.Qq fl Z Aa<|Jx.Qq fm Z Aa<|Jx.Aj<|Ab _ [0,0] Z<|AN ((k+1:Nat):Int) Z Z (Be oM sD) Aa<|Ac 1 Z ?_
   exact⟨(k+1,fl,fm,f2,fa),_,rfl,zR,⟨e2,(by have h:=e4.up (T':=f9.heap.size) oM;rw[CS [] oM];exact h),(by have h:=e1.up (T':=f9.heap.size) oM;rw[CS [] oM];exact h),(fun b hb hm=>e5 b hm hb),oM,(by assumption),oM,oM⟩,zD⟩
  refine Jx.BI (u:=zI<|(LQ.getD k []).getD 1 0) (B:=f0.heap.size) AK Bj Bz Z Z (Lh f0.heap.size f0.heap.size _ _ ba.2) (A7 _) Aa fun fz fe ai gq e7=>?_
  replace ai:=ai.of_drew
  have g0:=ai.size
  have e9:=b9.trans ai
  have b3:=al.ext (o1) ai
  have b4:=am.ext (o1) ai
  have ea:=hlq.ext g2 ai
  have eb:=ao.ext g1 ai
  refine Jx.BI (u:=zI<|(LQ.getD k []).getD 0 0) (B:=fe.heap.size) AK Bj Bz Z Z (Lh fe.heap.size fe.heap.size _ _ bl.2) (A7 _) Aa fun gu gv ar gr ec=>?_
  have g3:=ar.size
  have cp:=e9.trans ar
  have a1:=b3.ext (o1) ar
  have a8:=b4.ext (o1) ar
  have bc:=e7.ext (o1) ar
  have ed:=ea.ext g2 ar
  have ee:=eb.ext g1 ar
  refine Jx.aM (HD (v:=va) (a:=gu) Bj Bz Z Z Z a1 ec oM oM oM sD Md Aa fun fo Dp f3 au cq br=>?_)
  have g4:gv.heap.size≤Dp.heap.size:=au.size
  have cr:AG w Dp:=au.below cp (fun c hc=>A8 c1.size (a1.low c (zj hc))) cp.size
  have ct:=a8.keep (o1) au fun c hc hm=>a2 c (zj hc) hm
  have cu:∀b∈f3,b∉Fb:=fun b hb hm=>(br b hb).elim (fun hh=>a2 b hh hm) (fun hh=>zH<|a8.high b hm)
  have ef:=bc.chg (o1) au fun c hc=>by have:=a1.high c (zj hc);have:=a1.low c (zj hc);omega
  have eg:=RN.stp (S':=f3++Fb) g2 ed (au.sub fun c hc=>z8 _<|zj hc) fun b hb=>(zi.1 hb).elim (fun h=>(br b h).imp (fun h=>z8 _ h) id) fun h=>.inl<|z1 _ h
  have eh:=RN.stp (S':=f3++Fb) g1 ee (au.sub fun c hc=>z8 _<|zj hc) fun b hb=>(zi.1 hb).elim (fun h=>(br b h).imp (fun h=>z8 _ h) id) fun h=>.inl<|z1 _ h
  have aj:As (Fa++Fb) _ _:=au.sub (fun c hc=>z8 _ (zj hc))
  refine Aj ⟨⟨aj.os,aj.tape,aj.output,aj.size,aj.block⟩,?_⟩
  refine Jx.aM (HD (v:=vb) (a:=fz) Bj Bz Z Z Z ct ef oM oM oM sD Md Aa fun fp fb fc b5 ei bs=>?_)
  have g5:Dp.heap.size≤fb.heap.size:=b5.size
  have ej:AG w fb:=b5.below cr (fun c hc=>A8 b6.size (ct.low c (zj hc))) cr.size
  have ek:=cq.keep (o1) b5 fun c hc hm=>(fun b hb hm=>cu b hm hb) c (zj hc) hm
  have el:∀b∈fc,b∉f3:=fun b hb hm=>(bs b hb).elim (fun hh=>(fun b hb hm=>cu b hm hb) b hh hm) (fun hh=>zH<|cq.high b hm)
  have gs:=RN.stp (S':=f3++fc) g2 eg (b5.sub fun c hc=>z1 _<|zj hc) fun b hb=>(zi.1 hb).elim (fun h=>.inl<|z8 _ h) fun h=>(bs b h).imp (fun h=>z1 _ h) id
  have gt:=RN.stp (S':=f3++fc) g1 eh (b5.sub fun c hc=>z1 _<|zj hc) fun b hb=>(zi.1 hb).elim (fun h=>.inl<|z8 _ h) fun h=>(bs b h).imp (fun h=>z1 _ h) id
  have ak:As (Fa++Fb) _ _:=b5.sub (fun c hc=>z1 _ (zj hc))
  refine Aj ⟨⟨ak.os,ak.tape,ak.output,ak.size,ak.block⟩,?_⟩
  refine Jx.Qq fo Z Aa<|Jx.Qq fp Z Aa<|Jx.Aj<|Ab _ [0,0] Z<|AN ((k+1:Nat):Int) Z Z (Be oM sD) Aa<|Ac 1 Z ?_
  exact⟨(k+1,fo,fp,f3,fc),_,rfl,zR,⟨ej,(by have h:=ek.up (T':=fb.heap.size) oM;rw[CS [] oM];exact h),(by have h:=ei.up (T':=fb.heap.size) oM;rw[CS [] oM];exact h),(fun b hb hm=>el b hm hb),oM,(by assumption),oM,oM⟩,zD⟩
 refine AE false Z Z (A6 cc) Aa<|Aj<|A0<|Ai Z<|A4<|Av<|Av<|Aq<|aH [0,0,0,0,0] Z ?_
 have cv:=al.fr
 have cw:=am.fr
 exact Ac 5 Z<|A1<|Af [6,7,8] Z (.tuple #[va,vb,zI ((0:Nat):Int)]) Z ⟨va,vb,rfl,b9,(by first|(have h:=(cv.up o1).low c1.size;rw[za oM,hLQ]at h;exact h)|(exfalso;omega)),(by first|(have h:=(cw.up o1).low b6.size;rw[za oM,hLQ]at h;exact h)|(exfalso;omega))⟩
theorem GD (w:World)(va:Value)(a:Sr)(vb:Value)(b:Sr)(ha:Rd (AX rI) w.heap va a)(hb:Rd (AX rI) w.heap vb b)(hl:b.length=a.length) :
  Calls Tryz.prog 33 #[va,vb] w (fun e w'=>e=.returned (zI (Id a b a.length))∧AG w w'):=by
 refine Ap [va,vb] 31 Tryz.func33 Z Z sM ?_
 have a1:AG w w:=AG.refl w
 have a7:=ha.lenle
 have a8:=hb.lenle
 refine aI Z<|aI Z<|A0<|aI Z<|A3 ?_
 refine AW (S:=Nat×Int) (fun⟨k,s⟩=>([(5,zI s),(6,zI (k:Int)),(0,va),(1,vb)])) (fun⟨k,s⟩ W=>AG w W∧k≤a.length∧s=Id a b k∧(0≤s∧s<1000003)) (fun⟨k,s⟩=>a.length-k) (0,((0:Nat):Int)) ⟨rfl,rfl,rfl,rfl,trivial⟩ ⟨a1,sD,(by rfl),oM⟩ ?_
 clear a1
 rintro⟨k,s⟩ ρ1 w1 ⟨a0,a2,hs,a5⟩
 have a6:w.heap.size≤w1.heap.size:=a0.size
 refine A0<|aH [0,0,0,0,0,0,0,0,0,0] Z<|Ad 2 Z<|AO (v:=va) Bj Z ha.isSl Aa ?_
 by_cases a3:(k:Int)<(a.length:Int)
 ·refine AE true Z Z (A5 a3) Aa<|Ad 3 Z<|AO (v:=vb) Bj Z hb.isSl (Ae (e:=11) Z Z Z) ?_
  by_cases a4:(k:Int)<(b.length:Int)
  ·refine AE true Z Z (A5 a4) (Ae (e:=11) Z Z Z)<|Ac 1 Z<|Ag Z<|A2<|A0<|A3<|AQ _ [0,0,0,0,1,0,0,0,1,0,0,0] mixed (by kernel_rfl)<|Ad 3 Z<|Az (v:=va) k Bj Bz Z Z ha.isSl Z sD Aa ?_
   refine Ah (p:=Ax va k 1) (.inl Z) (zI<|a.getD k 0) AC Z (Bc a0.drew (ha.getI sD).1) Aa<|Ad 2 Z ?_
   refine Az (v:=vb) k Bj Bz Z Z hb.isSl Z sD Aa ?_
   refine Ah (p:=Ax vb k 1) (.inl Z) (zI<|b.getD k 0) AC Z (Bc a0.drew (hb.getI sD).1) Aa ?_
   refine AA 112 [] [] [zI<|a.getD k 0,zI<|b.getD k 0] Z Z JM Aa (zI<|md ((a.getD k 0)*(b.getD k 0))) (fun wq=>Ct wq _ _ (ha.getI sD).2 (hb.getI sD).2) ?_
   refine AA 50 [] [] [zI s,zI<|md ((a.getD k 0)*(b.getD k 0))] Z Z VW Aa (zI<|md (s+(md ((a.getD k 0)*(b.getD k 0))))) (fun wq=>Hc wq _ _ oM<|E3 _)<|Ac 1 Z<|Ab _ [0,0,0] Z<|Ad 1 Z<|AN ((k+1:Nat):Int) Z Z (Be oM sD) Aa<|Ac 1 Z ?_
   exact⟨(k+1,md (s+(md ((a.getD k 0)*(b.getD k 0))))),_,rfl,zR,⟨a0.drew,sD,(by rw[hs];exact Qb a b k),(by exact BU _)⟩,zD⟩
  exact AE false Z Z (A6 a4) (Ae (e:=11) Z Z Z)<|Ac 1 Z<|Ai Z<|A4<|Av<|Av<|Aq<|aH [0,0] Z<|Ac 2 Z<|A1<|Af [4] Z (zI s) Z ⟨B1 (by rw[hs,show k=a.length by omega]),a0⟩
 exact AE false Z Z (A6 a3) Aa<|Ac 6 Z<|Ai Z<|A4<|Av<|Av<|Aq<|aH [0,0] Z<|Ac 2 Z<|A1<|Af [4] Z (zI s) Z ⟨B1 (by rw[hs,show k=a.length by omega]),a0⟩
theorem Xd (w:World)(dp:Nat)(vp:Value)(p:List Fn)(f:Int)(va:Value)(a:Sr)(hp:RP [] dp w.heap vp p)(_hf:Bt f)(ha:Rd (AX rI) w.heap va a)(hz:Qh p)(hli:Lj p f a a=0)(har:IO p f a=0) :
  Calls Tryz.prog 30 #[(.agg #[vp]),zI f,va] w (fun e w'=>∃v0:Value,e=.returned (.tuple #[v0,zI (Oi p f a)])∧AG w w'∧Fr (Bi (Bi rI 2) 27) w.heap.size w'.heap.size w'.heap v0 (if Oi p f a=0 then IQ p f.toNat a (p.getD f.toNat Fn.zero).outs.length a.length else [])):=by
 have h:=J2 w dp vp p f va a hp _hf ha hz
 simp only[hli,true_and,if_true,← RE har]at h
 exact h
theorem YZ {p:List Fn}{f:Int}{a d:Sr}(h:Jg p=true)(hf:0≤f∧f<((p.length:Nat):Int))(hl:((a.length:Nat):Int)=(p.getD f.toNat Fn.zero).params)(hn:B2 a=true)(hl2:((d.length:Nat):Int)=(p.getD f.toNat Fn.zero).params)(hn2:B2 d=true):Lj p f a d=0:=by
  unfold Lj G3
  rw[if_pos h,if_pos zO,hn,hn2,A5 hl,A5 hl2];rfl
theorem SR (w:World)(va:Value)(a:List (Sr))(n m:Int)(ha:Rd (AX (AX rI)) w.heap va a)(_hn:Bt n)(_hm:Bt m)
  (hl:(a.length:Int)=n) (hr:∀k,k<a.length→(((a.getD k []).length:Nat):Int)=m):Calls Tryz.prog 21 #[va,zI n,zI m] w (fun e w'=>e=.returned (.bool true)∧AG w w'):=by
 have h:=Lu w va a n m ha _hn _hm
 have hq:(decide ((a.length:Int)=n) && a.all (fun r=>decide ((r.length:Int)=m)))=true:=by
  rw[A5 hl,Bool.true_and,zm]
  intro r hr'
  obtain⟨j,hj,rfl⟩:=List.mem_iff_getElem.1 hr'
  have h9:=hr j hj
  rw[FV hj]at h9
  exact A5 h9
 rw[hq]at h;exact h
theorem PT {p:List Fn}{f:Nat}{a:List Int}{K k:Nat}(hk:k<(IQ p f a K a.length).length):((IQ p f a K a.length).getD k []).length=a.length:=by
  rw[Fw]at hk
  rw[show(IQ p f a K a.length).getD k []=Xh p f a a.length k from C9 [] hk,Pq]
theorem Xe {p:Prop}(h:p:=by first|rfl|exact AJ (A5 (by rw[hbk];exact hRc.rv_dual hxw hlb.2))):p:=h
theorem JD (w:World)(vc:Value)(cs:List UInt8)(vd:Value)(ds:List UInt8)(hcs:Rd (AX rU) w.heap vc cs)(hds:Rd (AX rU) w.heap vd ds)  :
  Calls Tryz.prog 5 #[vc,vd] w (fun e w'=>e=.returned (.bool true)∧AG w w'):=by
 refine Ap [vc,vd] 143 Tryz.func5 Z Z sM ?_
 have e7:AG w w:=AG.refl w
 have fc:=hcs.lenle
 have fd:=hds.lenle
 refine aI Z<|A0<|aH [0,0,3] Z<|Ad 2 Z<|Au 12 [] [] [vc,vd] Z Z ZD Aa (Lt _ _ _ _ _ (hcs.ext D5 e7)<|hds.ext D5 e7) ?_
 rintro e1 w1 ⟨rfl,e8⟩
 refine⟨_,rfl,e8,?_⟩
 have gu:=e8.size
 have ec:=e7.trans e8
 refine Aj ?_
 cases ga:(decide (((3000:Nat):Int)<(cs.length:Int)) || decide (((3000:Nat):Int)<(ds.length:Int)))
 ·refine Ai (by first|rfl|exact zW ga)<|A2<|aH [0,3,0,0,0,0,0,0,3,4,0,0,0,0] Z<|Ad 1 Z<|Au 26 [] [] [vc] Z Z ZG Aa (LC _ vc _<|hcs.ext D5 ec) ?_
  rintro e3 w3 ⟨vD,vaD,vbD,pD,fD,kD,aD,bD,rfl,e9,hOD,haD,hbD,hCD⟩
  refine⟨_,rfl,e9,?_⟩
  have gv:=e9.size
  have gw:=ec.trans e9
  have hfe:=hCD.fe
  have hlc:=hCD.len
  have hpa:=hCD.dr.par fD.toNat oM
  have fl:=hCD.dr.outs fD.toNat oM
  have hla:=hCD.la
  have hlb:=hCD.lb
  have hft:(fD.toNat:Int)=fD:=by omega
  have ff:=K9 hCD.dr.ok
  have d8:=XM hCD.dr.ok oM hla.1 hla.2
  have ed:=YZ (d:=aD) hCD.dr.ok oM hla.1 hla.2 hla.1 hla.2
  have hex:=RE d8
  refine Ad 1 Z<|AP (vs:=[.agg #[vD],zI fD,zI kD,vaD,vbD]) (.agg #[vD]) Z Z Aa<|AP (vs:=[.agg #[vD],zI fD,zI kD,vaD,vbD]) (zI fD) Z Z Aa<|AP (vs:=[.agg #[vD],zI fD,zI kD,vaD,vbD]) (zI kD) Z Z Aa<|AP (vs:=[.agg #[vD],zI fD,zI kD,vaD,vbD]) vaD Z Z Aa<|AP (vs:=[.agg #[vD],zI fD,zI kD,vaD,vbD]) vbD Z Z Aa (Bp (z:=.agg #[zN]) Qf Aa fun w4 d6 gx ee=>?_)
  have ef:=d6.size
  have eg:=gw.trans d6
  have cq:=hOD.ext (At<|AZ 153 6) d6
  have d9:=haD.ext (o1) d6
  have da:=hbD.ext (o1) d6
  replace ee:BX w4.heap w3.heap.size [zN]:=ee
  refine Bw (vs:=[vD]) CG Z Z (by intro u hu;simp only[ze,z2,or_false]at hu;rcases hu with rfl <;> first|exact⟨rfl,rfl⟩|exact Bq cq.isSlS) ee Z Z Aa fun w5 d7 gy ea=>?_
  replace ea:BX w5.heap w3.heap.size [vD]:=ea
  have gz:w4.heap.size≤w5.heap.size:=d7.size
  have gb:AG w w5:=d7.below eg (fun _ h=>zE h) eg.size
  have eb:=cq.chg (At<|AZ 153 6) d7 fun _ h=>zA h
  have gc:=d9.chg (o1) d7 fun _ h=>zA h
  have gd:=da.chg (o1) d7 fun _ h=>zA h
  refine Ac 4 Z<|aH [0,0,2,0,0,0,2,0,3,0] Z<|Ad 1 Z<|Ak (p:=zP w3.heap.size) 0 BC Z Z Aa<|Ah (p:=Ao (zP w3.heap.size) 0) (.inr Z) vD C2 Z (ea.ldp (i:=0) sM) Aa<|Ad 1 Z<|Az (v:=vD) ((fD).toNat) GI Cy Z Z eb.isSlS oM sD Aa ?_
  obtain⟨cs9,i0,ge⟩:=RN.get (S:=[]) (Ay 6) Fn.zero (k:=(fD).toNat) (RN.of_frF eb (fun b hb=>by cases hb)) sD
  obtain⟨gf,rfl,gg⟩:=RF.of i0
  have db:=gg.rn.lenle
  unfold maxLen at db
  refine AI (p:=Ax vD ((fD).toNat) 3) 2 BV Z (ge _<|As.refl [] _) Aa<|Ah (p:=Ao (Ax vD ((fD).toNat) 3) 2) (.inr Z) gf Bf Z ((ge _<|As.refl [] _).ld (i:=2) (by simp[EP,EQ])) Aa<|AO (v:=gf) CZ Z gg.rn.isSl Aa<|Au 27 [] [] [vd,zI (((pD.getD ((fD).toNat) Fn.zero).outs.length:Nat):Int)] Z Z ZH Aa (Lv _ _ _ _ (hds.ext D5 gb) oM sD) ?_
  rintro fm fg ⟨a9,f4,rfl,ao,bu,eh⟩
  refine⟨_,rfl,ao,?_⟩
  have gh:=ao.size
  have ei:=gb.trans ao
  have ap:=eb.ext (At<|AZ 153 6) ao
  have aq:=gc.ext (o1) ao
  have bv:=gd.ext (o1) ao
  have bw:=ea.ext ao
  refine Ac 1 Z<|aH [2,0,0,3,0,0,0,0,0,0,0] Z ?_
  obtain⟨ws,hws⟩:∃l:Sr,l=f4:=⟨_,rfl⟩
  have hn_ws:=bu
  rw[← hws]at hn_ws
  have hwt:ws.length=(pD.getD fD.toNat Fn.zero).outs.length∧B2 ws=true:=by rw[hws];exact⟨by have h9:=‹_∧B2 f4=true›.1;omega,‹_∧B2 f4=true›.2⟩
  refine AL (p:=zP w3.heap.size) (.inr Z) [vD] CG Z (fun fa cj=>LD.of_box<|BX.ext (w:=fg) bw cj) Z Aa<|Ad 2 Z<|Au 28 [] [] [.agg #[vD],zI fD,vaD] Z Z ZI Aa (JV _ 6 vD (pD) _ _ _ (RN.of_frF ap fun b hb=>by cases hb) oM aq.rd1 hCD.dr.szp) ?_
  rintro fo fj ⟨aw,rfl,aj,bx⟩
  refine⟨_,rfl,aj,?_⟩
  have dc:=aj.size
  have dd:=ei.trans aj
  have ar:=ap.ext (At<|AZ 153 6) aj
  have au:=aq.ext (o1) aj
  have bz:=bv.ext (o1) aj
  have c0:=bw.ext aj
  have hn_wsx11:=hn_ws.ext (o1) aj
  refine Ad 1 Z<|AP (vs:=[aw,zI ((VI pD fD aD:Nat):Int),zI<|Oi pD fD aD]) aw Z Z Aa<|AP (vs:=[aw,zI ((VI pD fD aD:Nat):Int),zI<|Oi pD fD aD]) (zI ((VI pD fD aD:Nat):Int)) Z Z Aa<|AP (vs:=[aw,zI ((VI pD fD aD:Nat):Int),zI<|Oi pD fD aD]) (zI<|Oi pD fD aD) Z Z Aa<|Ac 3 Z<|aH [2,0,0,3,0,0,0,3,4,0] Z<|AL (p:=zP w3.heap.size) (.inr Z) [vD] CG Z (fun fa cj=>LD.of_box<|BX.ext (w:=fj) c0 cj) Z Aa<|Ad 2 Z ?_
  refine Au 29 [] [] [.agg #[vD],zI fD,vaD] Z Z ZJ Aa (LF _ 6 vD pD (fD) vaD aD (RN.of_frF ar fun b hb=>by cases hb) oM (RN.of_fr1 au fun b hb=>absurd hb z2) hCD.dr.ok hCD.dr.szp oM oM hla.2) ?_
  rintro fp f5 ⟨i12,f0,f1,f2,f3,f7,fq,f8,rfl,ac,cr,gi,de,ct,df⟩
  refine⟨_,rfl,ac,?_⟩
  have dg:=ac.size
  have dh:=dd.trans ac
  have c1:=ar.ext (At<|AZ 153 6) ac
  have c2:=au.ext (o1) ac
  have c3:=bz.ext (o1) ac
  have c4:=c0.ext ac
  have hn_wsx12:=hn_wsx11.ext (o1) ac
  have ag:=bx.ext (o1) ac
  have gj:HS pD (fD).toNat aD=f8:=NC (A7 1) ff oM hla.2 (Kk (IM hla.2) (KR _)) oM cr
  have di:=AG.refl f5
  refine Ad 1 Z<|AP (vs:=[.agg #[zI i12,f0,f1,f2],zI f8]) (.agg #[zI i12,f0,f1,f2]) Z Z Aa<|AP (vs:=[.agg #[zI i12,f0,f1,f2],zI f8]) (zI f8) Z Z Aa ?_
  have i1:=c4.lt
  refine Bp (z:=.agg #[zI 0,zN,zN,zN]) YK Aa fun fh ad ej cu=>?_
  have dj:=ad.size
  have cv:=dh.trans ad
  have ek:=di.trans ad
  have c5:=c1.ext (At<|AZ 153 6) ad
  have c6:=c2.ext (o1) ad
  have c7:=c3.ext (o1) ad
  have cw:=c4.ext ad
  have hn_wsx13:=hn_wsx12.ext (o1) ad
  have ah:=ag.ext (o1) ad
  replace cu:BX fh.heap f5.heap.size [zI 0,zN,zN,zN]:=cu
  refine Bw (vs:=[zI i12,f0,f1,f2]) DY Z Z (fun u hu=>by rcases ze.1 hu with rfl|hu;exact⟨rfl,rfl⟩;exact de u hu) cu Z Z Aa fun f6 ae el cx=>?_
  replace cx:BX f6.heap f5.heap.size [zI i12,f0,f1,f2]:=cx
  have gk:fh.heap.size≤f6.heap.size:=ae.size
  have em:AG w f6:=ae.below cv (fun _ h=>zE h) cv.size
  have cy:=c5.chg (At<|AZ 153 6) ae fun _ h=>zA h
  have cz:=c6.chg (o1) ae fun _ h=>zA h
  have dk:=c7.chg (o1) ae fun _ h=>zA h
  have d0:=cw.chg ae (zB ·)
  have dl:=hn_wsx13.chg (o1) ae fun _ h=>zA h
  have dm:=ah.chg (o1) ae fun _ h=>zA h
  have c8:As [f5.heap.size] f5 f6:=(As.of_ext _ ek).trans ae
  have dn:=AG.refl f6
  refine Ac 1 Z<|aH [2,0,0,3,0,0,0,0,0] Z<|AL (p:=zP w3.heap.size) (.inr Z) [vD] CG Z (fun fa cj=>LD.of_box<|BX.ext (w:=f6) d0 cj) Z Aa<|Ad 2 Z<|Au 30 [] [] [.agg #[vD],zI fD,vaD] Z Z ZK Aa (Xd _ 6 vD (pD) _ _ _ (RN.of_frF cy fun b hb=>by cases hb) oM cz.rd1 hCD.dr.szp ed d8) ?_
  rintro fr f9 ⟨aa,rfl,a5,c9⟩
  refine⟨_,rfl,a5,?_⟩
  have gl:=a5.size
  have dp:=em.trans a5
  have ck:=dn.trans a5
  have ax:=cy.ext (At<|AZ 153 6) a5
  have ak:=cz.ext (o1) a5
  have ay:=dk.ext (o1) a5
  have az:=d0.ext a5
  have al:=dl.ext (o1) a5
  have b0:=dm.ext (o1) a5
  have b1:=cx.ext a5
  refine Ad 1 Z<|AP (vs:=[aa,zI<|Oi pD fD aD]) aa Z Z Aa<|AP (vs:=[aa,zI<|Oi pD fD aD]) (zI<|Oi pD fD aD) Z Z Aa<|Ac 2 Z<|A0<|aH [0,0,0,0,0,0,0,0] Z<|Ad 2 Z ?_
  have en:¬(f8≠Oi pD fD aD):=oM
  refine B3 false Z Z (A6 en) Aa<|Ad 3 Z<|B3 false Z Z sM (Ae (e:=69) Z Z Z)<|Ac 1 Z<|Ai Z<|A2<|A0<|aH [0,0] Z<|Ad 1 Z ?_
  by_cases dq:Oi pD fD aD≠((0:Nat):Int)
  ·exact B3 true Z Z (A5 dq) Aa<|Aj<|Ag Z<|aI Z<|A1<|Am<|Af [4] Z (.bool true) Z ⟨Xe,dp⟩
  refine B3 false Z Z (A6 dq) Aa<|Aj<|Ai Z<|A2<|aH [2,0,0,3,0,0,0,0,0] Z ?_
  have dt:f8=0:=by omega
  obtain⟨ia,hTB,i2,hxl,hEn,i3,i4,i5⟩:=df dt
  have du:=cr
  rw[dt]at du
  have hRc:Ll pD (fD).toNat aD f3 f7:=⟨ff,zO,zO,hla.2,_,du⟩
  have hTR:=hRc.tpr hTB i2
  have dv:RN [] (Dw 4 No) f9.heap f0 f7.code:=RN.ext (An B4) (RN.none (RN.chg (An B4) (RG.rnG (g:=f5.heap.size) (An B4) i3 oM) c8)) ck
  have dw:RN [] (Dw 2 Np) f9.heap f1 f7.grd:=RN.ext (An Bd) (RN.none (RN.chg (An Bd) (RG.rnG (g:=f5.heap.size) (An Bd) i4 oM) c8)) ck
  have dx:RN [] (AX rI) f9.heap f2 f3:=RN.ext g1 (RN.none (RN.chg g1 (RG.rnG (g:=f5.heap.size) g1 i5 oM) c8)) ck
  have hxw:ws.length=f3.length:=by omega
  have h00:Oi pD fD aD=0:=by omega
  have hrw:=c9
  rw[if_pos h00]at hrw
  refine AL (p:=zP f5.heap.size) (.inr Z) [zI i12,f0,f1,f2] DY Z (fun fa cj=>LD.of_box<|BX.ext (w:=f9) b1 cj) Z Aa<|Ad 2 Z<|Au 31 [] [] [.agg #[zI i12,f0,f1,f2],vaD,a9] Z Z ZL Aa (Iv _ (i12) f0 f1 f2 (f7) (f3) _ _ _ _ ct dv dw dx ak.rd1 al.rd1 oM hTR (by exact⟨hxw,hwt.2⟩)) ?_
  rintro fs fb ⟨a3,rfl,a1,ca⟩
  refine⟨_,rfl,a1,?_⟩
  have gm:=a1.size
  have eo:=dp.trans a1
  have ep:=ck.trans a1
  have b2:=ax.ext (At<|AZ 153 6) a1
  have am:=ak.ext (o1) a1
  have an:=ay.ext (o1) a1
  have b3:=az.ext a1
  have b4:=al.ext (o1) a1
  have b5:=b0.ext (o1) a1
  have cl:=b1.ext a1
  have d1:=hrw.ext (o2) a1
  have dy:=dv.ext (An B4) a1
  have dz:=dw.ext (An Bd) a1
  have e0:=dx.ext g1 a1
  refine Ad 1 Z<|AP (vs:=[a3,zI 0]) a3 Z Z Aa<|AP (vs:=[a3,zI 0]) (zI 0) Z Z Aa<|Ac 2 Z<|aH [2,0,0,3,0,0,0,0,0,0,0] Z ?_
  obtain⟨bk,hbk⟩:∃l:Sr,l=DG (Kl 2 f7 f3 ws (Cc aD aD 2)):=⟨_,rfl⟩
  have hn_bk:=ca
  rw[← hbk]at hn_bk
  have hbl:bk.length=aD.length:=by rw[hbk,DR,IV,BK]
  refine AL (p:=zP f5.heap.size) (.inr Z) [zI i12,f0,f1,f2] DY Z (fun fa cj=>LD.of_box<|BX.ext (w:=fb) cl cj) Z Aa<|Ad 2 Z<|Au 32 [] [] [.agg #[zI i12,f0,f1,f2],vaD,vbD] Z Z ZM Aa (Iw _ (i12) f0 f1 f2 (f7) (f3) _ _ _ _ ct dy dz e0 am.rd1 an.rd1 oM hTR (by exact⟨zO,hlb.2⟩)) ?_
  rintro ft fk ⟨b6,a4,rfl,a2,cb,cc⟩
  refine⟨_,rfl,a2,?_⟩
  have gn:=a2.size
  have eq:=eo.trans a2
  have er:=ep.trans a2
  have b7:=b2.ext (At<|AZ 153 6) a2
  have a7:=am.ext (o1) a2
  have b8:=an.ext (o1) a2
  have b9:=b3.ext a2
  have a8:=b4.ext (o1) a2
  have ba:=b5.ext (o1) a2
  have cd:=d1.ext (o2) a2
  have hn_bkx29:=hn_bk.ext (o1) a2
  have es:=dy.ext (An B4) a2
  have et:=dz.ext (An Bd) a2
  have eu:=e0.ext g1 a2
  refine Ad 1 Z<|AP (vs:=[b6,a4,zI 0]) b6 Z Z Aa<|AP (vs:=[b6,a4,zI 0]) a4 Z Z Aa<|AP (vs:=[b6,a4,zI 0]) (zI 0) Z Z Aa<|Ac 3 Z<|A0<|aH [0,0,0,0,0,0,0,0,0,0,0,0,0,0,0,0,0,0,0,0,0,0,0,0,0,0,3,0,0] Z ?_
  have hdd:=cc
  rw[Se hRc hlb.2]at hdd
  have hdl:(GT pD fD.toNat aD bD).length=ws.length:=by rw[← Se hRc hlb.2,hxw];unfold Ok;rw[zg]
  refine Ad 1 Z ?_
  have ev:¬(0≠((0:Nat):Int)):=(fun h9=>h9 Z)
  refine B3 false Z Z (A6 ev) Aa<|Ad 2 Z ?_
  have ew:¬(0≠((0:Nat):Int)):=(fun h9=>h9 Z)
  refine B3 false Z Z (A6 ew) (Ae (e:=93) Z Z Z)<|Ad 3 Z<|AO (v:=a3) Bj Z hn_bkx29.isSl (Ae (e:=97) Z Z Z)<|Ad 1 Z<|AO (v:=vaD) Bj Z a7.isSl (Ae (e:=97) Z Z Z) ?_
  have ex:¬((bk.length:Int)≠(aD.length:Int)):=oM
  refine B3 false Z Z (A6 ex) (Ae (e:=97) Z Z Z)<|Ad 3 Z<|AO (v:=a4) Bj Z hdd.isSl (Ae (e:=104) Z Z Z)<|Ad 1 Z<|AO (v:=a9) Bj Z a8.isSl (Ae (e:=104) Z Z Z) ?_
  have ey:¬((((MD (GT pD fD.toNat aD bD)).length:Nat):Int)≠(ws.length:Int)):=(fun h9=>h9 (by rw[NK,hdl]))
  refine B3 false Z Z (A6 ey) (Ae (e:=104) Z Z Z)<|Ad 4 Z<|AO (v:=a9) Bj Z a8.isSl (Ae (e:=111) Z Z Z)<|Ad 1 Z<|AO (v:=vaD) Bj Z a7.isSl (Ae (e:=111) Z Z Z)<|Au 21 [] [] [aa,zI (ws.length:Int),zI (aD.length:Int)] Z Z ZE (Ae (e:=111) Z Z Z) (SR _ _ _ _ _ cd.rd2 oM oM (by rw[Fw];omega) (by intro k hk;rw[PT hk])) ?_
  rintro fu fv ⟨rfl,a0⟩
  refine⟨_,rfl,a0,?_⟩
  have e2:=a0.size
  have e4:=eq.trans a0
  have ez:=er.trans a0
  have bb:=b7.ext (At<|AZ 153 6) a0
  have cm:=a7.ext (o1) a0
  have bc:=b8.ext (o1) a0
  have cn:=b9.ext a0
  have bd:=a8.ext (o1) a0
  have co:=ba.ext (o1) a0
  have d2:=cd.ext (o2) a0
  have hn_bkx37:=hn_bkx29.ext (o1) a0
  have be:=cb.ext (o1) a0
  have d3:=hdd.ext (o1) a0
  have i6:=es.ext (An B4) a0
  have i7:=et.ext (An Bd) a0
  have i8:=eu.ext g1 a0
  refine Br false Z Z (Ae (e:=111) Z Z Z)<|Ac 1 Z<|Ai Z<|A2<|A0<|aI Z<|A3 ?_
  refine AW (S:=Nat) (fun k=>([(23,zI (k:Int)),(9,vbD),(10,a9),(16,aa),(18,a3),(21,a4)])) (fun k W=>AG w W∧Fr (EI 3 (Qg 153 6) 49) w1.heap.size w3.heap.size W.heap vD pD∧Fr (Bi rI 2) w1.heap.size w3.heap.size W.heap vbD bD∧Fr (Bi rI 2) w5.heap.size fg.heap.size W.heap a9 ws∧Fr (Bi (Bi rI 2) 27) f6.heap.size f9.heap.size W.heap aa (IQ pD fD.toNat aD (pD.getD fD.toNat Fn.zero).outs.length aD.length)∧Fr (Bi rI 2) f9.heap.size fb.heap.size W.heap a3 bk∧Fr (Bi rI 2) fb.heap.size fk.heap.size W.heap a4 (MD<|GT pD fD.toNat aD bD)∧AG f6 W∧k≤bk.length∧w1.heap.size≤W.heap.size) (fun k=>bk.length-k) 0 ⟨rfl,rfl,rfl,rfl,rfl,rfl,trivial⟩ ⟨e4,bb,bc,bd,d2,hn_bkx37,d3,ez,oM,oM⟩ ?_
  clear e7 e8 e9 gx d6 ef eg gy d7 eb gc gd db bu ao ap aq bv bx aj dc dd ar au bz ac dg dh c1 c2 c3 ag ej ad dj cv c5 c6 c7 ah el ae cy cz dk d0 dl dm c9 a5 ax ak ay az al b0 ca a1 b2 am an b3 b4 b5 cc cb a2 b7 a7 b8 b9 a8 ba a0 e2 e4 bb cm bc cn bd co be
  rintro k ρ41 fi ⟨d4,d5,ce,cf,cg,ab,ch,ci,g0,go⟩
  have gp:w.heap.size≤fi.heap.size:=d4.size
  refine A0<|aH [0,0,0,0] Z<|Ad 2 Z<|AO (v:=a3) Bj Z ab.isSl Aa ?_
  by_cases e5:(k:Int)<(bk.length:Int)
  ·refine AE true Z Z (A5 e5) Aa<|Aj<|Ag Z<|A2<|A0<|A3<|A0<|AQ _ [0,0,0,1,0,0,0,3,3,0] mixed (by kernel_rfl)<|Ad 2 Z<|Az (v:=a3) k Bj Bz Z Z ab.isSl Z sD Aa ?_
   refine Ah (p:=Ax a3 k 1) (.inl Z) (zI<|bk.getD k 0) AC Z (ab.rd1.getI sD).1 Aa (Ad 3 Z ?_)
   refine Au 23 [] [] [aa,zI (k:Int)] Z Z ZF Aa (JS _ _ _ (k) cg.rd2 sD (by rw[Fw];omega) (by intro r hr;rw[PT hr];omega)) ?_
   rintro fw fx ⟨e6,rfl,a6,av⟩
   refine⟨_,rfl,a6,?_⟩
   replace a6:=a6.of_drew
   have gq:=a6.size
   have g2:=d4.trans a6
   have g3:=ci.trans a6
   have bf:=d5.ext (At<|AZ 153 6) a6
   have bg:=ce.ext (o1) a6
   have ai:=cf.ext (o1) a6
   have bh:=cg.ext (o2) a6
   have bi:=ab.ext (o1) a6
   have bj:=ch.ext (o1) a6
   replace av:=av.low (B':=fi.heap.size)<|A7 _
   refine Au 33 [] [] [a9,e6] Z Z VV Aa (GD _ _ _ _ _ ai.rd1 av.rd1 (by rw[zg,Fw];omega)) ?_
   rintro fy fz ⟨rfl,af⟩
   refine⟨_,rfl,af,?_⟩
   have gr:=af.size
   have g4:=g2.trans af
   have g5:=g3.trans af
   have bl:=bf.ext (At<|AZ 153 6) af
   have bm:=bg.ext (o1) af
   have bn:=ai.ext (o1) af
   have bo:=bh.ext (o2) af
   have bp:=bi.ext (o1) af
   have bq:=bj.ext (o1) af
   have g6:¬(bk.getD k 0≠Id ws ((IQ pD fD.toNat aD (pD.getD fD.toNat Fn.zero).outs.length aD.length).map (fun r=>r.getD k 0)) ws.length):=(fun h9=>h9 (by rw[hbk];exact hRc.rv_col oM hxw oM))
   exact B3 false Z Z (A6 g6) Aa<|Aj<|Ai Z<|A2<|Ab _ [0,0,0] Z<|Ad 1 Z<|AN ((k+1:Nat):Int) Z Z (Be oM sD) Aa<|Ac 1 Z ⟨k+1,_,rfl,zR,⟨g4,bl,bm,bn,bo,bp,bq,g5,oM,oM⟩,zD⟩
  refine AE false Z Z (A6 e5) Aa<|Aj<|Ai Z<|A4<|Av<|Av<|Aq<|aH [0,0,3,0,0,3,0,0] Z<|Ad 2 Z<|Au 33 [] [] [a9,a4] Z Z VV Aa (GD _ _ _ _ _ cf.rd1 ch.rd1 (by rw[NK];omega)) ?_
  rintro ib ic ⟨rfl,br⟩
  refine⟨_,rfl,br,?_⟩
  have gs:=br.size
  have g7:=d4.trans br
  have g8:=ci.trans br
  have bs:=ce.ext (o1) br
  have bt:=ab.ext (o1) br
  refine Ad 2 Z<|Au 33 [] [] [a3,vbD] Z Z VV Aa (GD _ _ _ _ _ bt.rd1 bs.rd1 oM) ?_
  rintro ie ig ⟨rfl,cp⟩
  refine⟨_,rfl,cp,?_⟩
  have gt:=cp.size
  have g9:=g7.trans cp
  have i9:=g8.trans cp
  exact Al (decide (Id ws (MD<|GT pD fD.toNat aD bD) ws.length=Id bk bD bk.length)) Z Z Z Aa<|Ac 1 Z<|A1<|Af [4] Z (.bool<|decide (Id ws (MD<|GT pD fD.toNat aD bD) ws.length=Id bk bD bk.length)) Z ⟨Xe,g9⟩
 exact Ag (by first|rfl|exact zW ga)<|aI Z<|A1<|Am<|Af [4] Z (.bool true) Z ⟨Xe,ec⟩
end
end Go.Proofs.YtbajepcpgncekaaGreat
