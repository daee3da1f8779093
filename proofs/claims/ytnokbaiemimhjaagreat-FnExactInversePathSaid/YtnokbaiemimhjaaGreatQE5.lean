/- Yd, Ye, Yf, Yh, Yl, Sd, Sl, Sp, Vi, Vj, Vk, Vl: texts of this claim, joined; what the claim does not come to is left out. -/
import Derived.Test.YtnokbaiemimhjaaGreatQE4
import Derived.Test.YtnokbaiemimhjaaGreatProg
set_option linter.unusedVariables false
set_option linter.unusedSimpArgs false
namespace Go.Proofs.YtnokbaiemimhjaaGreat
open Go Go.RowKit
section
set_option maxHeartbeats 4000000
set_option maxRecDepth 100000
attribute [local irreducible] LW
theorem Bk (w:World)(r:Int)(vs:Value)(s:List Int)(S:List Nat)(vo:Nat)(vov:Value)(xs:List (List Int))(usxs:List Value)(Fxs:List Nat)(BO:Nat)(_hr:BC r)(hs:Rd (B3 rI) w.heap vs s)(hcxs:EZ w.heap (.pointer (some ⟨vo,0,none⟩))=some vov)(hbxs:Ii 27 S BO w.heap vov xs usxs Fxs)(hSB:∀b∈S,b<BO)(a9:∀b∈S,b<w.heap.size)(hr:0≤r∧r<((xs.length:Nat):Int))(hxl:(xs.getD r.toNat []).length≤s.length∧s.length≤13)(hxn:B7 (xs.getD r.toNat [])=true)(hsn:B7 s=true) :
  Calls Tryz.prog 220 #[.int .i64 r,vs,.pointer (some ⟨vo,0,none⟩)] w (fun e w'=>e=.returned (.tuple #[])∧AE Fxs w w'∧∃us',Ii 27 S BO w'.heap vov (FH xs r s) us' Fxs):=by
 refine At [.int .i64 r,vs,.pointer (some ⟨vo,0,none⟩)] 14 Tryz.func220 Z Z sM ?_
 have a2:Az w w:=Az.refl w
 have hl_vs:=hs.lenle
 have hFl:∀b∈Fxs,b<w.heap.size:=hbxs.lt
 refine AY _ [1,0,1,0,0,1,0,3,0,4] mixed (by kernel_rfl) (Ak (.inl Z) vov DX Z (AP a2.drew hcxs) Ac (Af 1 Z (Ak (.inl Z) vov DX Z (AP a2.drew hcxs) Ac (Af 1 Z (Au (v:=vov) ((r).toNat) Bi AX Z Z (hbxs.done hSB).none.slL oM sD Ac ?_)))))
 obtain⟨a7,aa,a4⟩:=hbxs.getF (k:=(r).toNat) sD
 have a5:=a4.lenL
 unfold maxLen at a5
 refine Ak (p:=Aw vov ((r).toNat) 1) (.inl Z) a7 B6 Z aa Ac (Af 1 Z (Ap 102 [] [] [a7,vs] Z Z Qa Ac (Et _ _ _ _ _ a4.rd (hs.ext g1 a2.drew) oM oM (by exact hxn) (by exact hsn)) ?_))
 rintro e2 w2 ⟨a6,rfl,a1,a0⟩
 refine⟨_,rfl,a1,?_⟩
 replace a1:=a1.of_drew
 have ab:=a1.size
 have ac:=a2.trans a1
 have a8:=hbxs.ext a1
 have ad:=a4.ext g1 a1
 replace a0:=a0.low (B':=w.heap.size) (A9 _)
 refine Au (v:=vov) ((r).toNat) Bi AX Z Z (a8.done hSB).none.slL oM sD Ac ?_
 refine VD (v:=vov) (u:=a6) (w:=w2) Ja Z Z a8 (RN.of_fr1 a0 (fun b hb=>by rcases List.mem_append.1 hb with hb|hb;(have:=a9 b hb;omega);(have:=hFl b hb;omega))) sD Ac fun w5 a3 ah ae=>?_
 have af:w2.heap.size≤w5.heap.size:=a3.size
 have ag:AE Fxs w w5:=(AE.of_ext _ ac).trans a3
 have ai:=ad.chg g1 (a3.sub (fun b hb=>List.mem_append_right _ hb))
 have aj:=a0.chg (o1) a3 (fun c hc=>by have:=hFl c hc;omega)
 exact Ah (Pg [] Z (.tuple #[]) Z ⟨rfl,ag,_,ae⟩)
theorem KM {p:Prop}(h:p:=by first|(rw[show(kk-1+1).toNat=kk.toNat from by omega];exact H8 hadj oM (PY oM))|(rw[show(kk-1+1).toNat=kk.toNat from by omega];exact H8 hadj oM (PZ oM))|(rw[show(kk-1+1).toNat=kk.toNat from by omega];exact H8 hadj oM (Q0 oM))|(rw[show(kk-1+1).toNat=kk.toNat from by omega];exact H8 hadj oM (Q3 oM))|(rw[show(kk-1+1).toNat=kk.toNat from by omega];exact H8 hadj oM (Q4 oM))|(rw[show(kk-1+1).toNat=kk.toNat from by omega];exact H8 hadj oM (Q5 oM))):p:=h
theorem KN {p:Prop}(h:p:=by(try rw[show((1000002:Nat):Int)=1000002 from rfl]);first|(rw[← PY (k:=kk.toNat) (R:=R) oM];exact Hv hxs oM (hform _ hkn))|(rw[← PZ (k:=kk.toNat) (R:=R) oM];exact Hv hxs oM (hform _ hkn))|(rw[← Q0 (k:=kk.toNat) (R:=R) oM];exact Hv hxs oM (hform _ hkn))|(rw[← Q3 (k:=kk.toNat) (R:=R) oM];exact Hv hxs oM (hform _ hkn))|(rw[← Q4 (k:=kk.toNat) (R:=R) oM];exact Hv hxs oM (hform _ hkn))|exact hxs):p:=h
theorem Gd {p:Prop}(h:p:=by first|exact hro.2|exact hRa.2|exact hRb.2|exact hRk.2|exact Em _ _|exact Ff _ _|exact El _ _):p:=h
theorem HA {p:Prop}(h:p:=by refine⟨?_,?_⟩ <;> first|omega|(simp only[FZ,Fe,DT,GV];omega)):p:=h
theorem HB {p:Prop}(h:p:=by first|exact hro.2|exact Em _ _|exact Ff _ _|exact El _ _):p:=h
theorem Ge {p:Prop}(h:p:=by first|omega|(simp only[FZ,Fe,DT,GV];omega)):p:=h
theorem KO {p:Prop}(h:p:=by first|exact hxl|(simp only[C4];exact hxl)):p:=h
theorem Dz (w:World)(m:Nat)(ni:Nat)(S:List Nat)(ipT:Int)(vtc vtg vtx:Value)(T:Tp)(oT:List Int)(vr:Value)(R:List (List Int))(vw:Value)(ws:List Int)(c1:∀b∈S,b<w.heap.size)(_hipT:BC ipT)(htcT:RN [] (Dp 4 QI) w.heap vtc T.code)(htgT:RN [] (Dp 2 S7) w.heap vtg T.grd)(htoT:RN [] (B3 rI) w.heap vtx oT)(hR:RN [] (B3 (B3 rI)) w.heap vr R)(hqR:CK vr)(hws:Rd (B3 rI) w.heap vw ws)(hm:1≤m∧m≤13)(hsR:Bt m R)(hlR:R.length=T.code.length)(hlt:T.code.length≤4000)(hlo:oT.length≤ws.length∧ws.length≤1000000)(ho:∀k,k<oT.length→0≤oT.getD k 0∧oT.getD k 0<((T.code.length:Nat):Int))(hnw:B7 ws=true)(hform:∀k,k<T.code.length→GL ni k (T.code.getD k AF.zero)) :
  Calls Tryz.prog 182 #[(.agg #[(.int .i64 ipT),vtc,vtg,vtx]),vr,vw] w (fun e w'=>∃v0:Value,e=.returned v0∧Az w w'∧RN S (B3 (B3 rI)) w'.heap v0 (L6 T.code R oT ws)∧CK v0):=by
 refine At [(.agg #[(.int .i64 ipT),vtc,vtg,vtx]),vr,vw] 159 Tryz.func182 Z Z sM ?_
 have jn:Az w w:=Az.refl w
 have hl_vtx:=htoT.lenL
 unfold maxLen at hl_vtx
 have hl_vr:=hR.lenL
 unfold maxLen at hl_vr
 have hl_vw:=hws.lenle
 refine A0 (Ad _ [3,0] Z (Bx (cs:=#[(.int .i64 ipT),vtc,vtg,vtx]) Z Ac fun w1 gx ks gy=>?_))
 have gz:=gx.size
 have jo:=jn.trans gx
 replace gy:BX w1.heap w.heap.size [(.int .i64 ipT),vtc,vtg,vtx]:=gy
 refine Ae 1 Z (A0 (Ad _ [3,3,4] Z (BI (AS rI 2) o1 Bi AX Ac fun v2 w2 gu kt jp=>?_)))
 have i0:=gu.size
 have jq:=jo.trans gu
 have cu:=gy.ext gu
 have lu:=cu.lt
 refine BJ (z:=(.slice none 0 0)) (by kernel_rfl) Ac fun w3 dx ku i1=>?_
 have i3:=dx.size
 have i4:=jq.trans dx
 have dy:=cu.ext dx
 have c2:=jp.ext (o2) dx
 replace i1:BX w3.heap w2.heap.size [(.slice none 0 0)]:=i1
 refine Co (k:=0) (w:=w3) YY Z Z (BQ c2.isSl) i1 sM Ac fun w5 dz kv gv=>?_
 replace gv:BX w5.heap w2.heap.size [v2]:=gv
 have jr:Az w w5:=dz.below i4 (fun c hc=>by have:=Ab hc;omega) i4.size
 have i5:w3.heap.size≤w5.heap.size:=dz.size
 have js:=dy.chg dz (fun hm=>by have:=Ab hm;omega)
 have jt:=c2.chg (o2) dz (fun c hc=>by have:=Ab hc;omega)
 refine Ah (A0 (A0 (Ad _ [0,0,0] Z (Af 1 Z (AJ (v:=vr) Bi Z hR.slL Ac (Ae 1 Z (A5 ?_)))))))
 have hLBa:w.heap.size<w1.heap.size:=by omega
 have hLBb:w1.heap.size≤w2.heap.size:=by omega
 have hLBc:=Nat.le_of_lt hLBa
 obtain⟨Fo8,e0⟩:=Ow.of_fr (T:=w2.heap.size) jt (A9 _)
 have kw:w2.heap.size∉Fo8:=fun hm=>by have:=e0.high _ hm;omega
 have kx:=e0.up (T':=w5.heap.size) oM
 have ky:w2.heap.size<w5.heap.size:=BX.lt gv
 refine AN (S:=Nat×Value×List Nat) (fun⟨k,vo,Fo⟩=>([(20,(.int .i64 ((k:Nat):Int))),(1,vr),(2,vw),(3,(.pointer (some ⟨w.heap.size,0,none⟩))),(7,(.pointer (some ⟨w2.heap.size,0,none⟩))),(18,vr),(19,(.int .i64 ((R.length:Nat):Int)))])) (fun⟨k,vo,Fo⟩ W=>Az w W∧BX W.heap w.heap.size [(.int .i64 ipT),vtc,vtg,vtx]∧BX W.heap w2.heap.size [vo]∧k≤R.length∧Ow (AS (AS rI 2) 27) w1.heap.size W.heap.size W.heap vo (JW (R.take k)) Fo∧w2.heap.size∉Fo) (fun⟨k,vo,Fo⟩=>R.length-k) (0,v2,Fo8) ⟨rfl,rfl,rfl,rfl,rfl,rfl,rfl,trivial⟩ ⟨jr,js,gv,oM,(by assumption),(by assumption)⟩ ?_
 clear jn ks gx gz jo jp kt gu i0 jq ku dx i3 i4 c2 kv dz jr i5 js jt
 rintro⟨k,vo,Fo⟩ ρ9 w9 ⟨e1,ax,ap,ju,hOl,hgF⟩
 have i6:w.heap.size≤w9.heap.size:=e1.size
 have kz:=ax.lt
 have l0:=ap.lt
 have hgl:w2.heap.size<w9.heap.size:=BX.lt ap
 refine A0 (Ad _ [0] Z ?_)
 by_cases e2:((k:Nat):Int)<((R.length:Nat):Int)
 ·refine Ax true Z Z (A7 e2) Ac (Ah (A0 (Ai Z (A4 (A0 (A5 (A0 (Ad _ [0,2,0] Z (Au (v:=vr) k Bi AX Z Z hR.slL Z sD Ac ?_)))))))))
  obtain⟨e3,i8,e4⟩:=RN.getL (w:=w) g1 [] (k:=k) hR sD
  have e5:=e4.lenL
  unfold maxLen at e5
  refine Ak (p:=Aw vr k 1) (.inr Z) e3 B6 Z (i8 _ (AE.of_ext [] e1)) Ac (Ae 1 Z (AY _ [1,0,0,3,3,4,4] mixed (by kernel_rfl) ?_))
  have hrk:=hsR k oM
  have l1:=hrk.1
  refine Ak (p:=(.pointer (some ⟨w2.heap.size,0,none⟩))) (.inl Z) vo DX Z (ap.ld (k:=0) sM) Ac (Af 1 Z (AJ (v:=e3) Bh Z e4.slL Ac (EF (n:=(R.getD k []).length) Bh BA Z Z Z sD Ac fun v14 w14 b5 l2 i9=>?_)))
  replace b5:=b5.of_drew
  have jv:=b5.size
  have ia:=e1.trans b5
  have c3:=ax.ext b5
  have c4:=ap.ext b5
  have ib:=hOl.ext o2 b5
  refine Bq (u:=v14) (B:=w9.heap.size) o1 Bi AX Z Z i9 (by first|exact A9 _|omega) Ac fun v16 w16 c5 l3 ic=>?_
  have jw:=c5.size
  have e6:=ia.trans c5
  have c6:=c3.ext c5
  have c7:=c4.ext c5
  have df:=ib.ext o2 c5
  refine bL o1 (v:=vo) (a:=v16) Bi AX Z Z Z df ic oM oM oM sD (by unfold maxLen;first|omega|assumption|(simp;done)|(simp;omega)) Ac fun v18 w18 F18 ck e7 id=>?_
  have jx:w16.heap.size≤w18.heap.size:=ck.size
  have e8:Az w w18:=ck.below e6 (fun c hc=>Aa hLBc (df.low c (List.mem_of_mem_take hc))) e6.size
  have ie:=c6.chg ck (fun hm=>by have:=df.low _ (List.mem_of_mem_take hm);omega)
  have ig:=c7.chg ck (fun hm=>hgF (List.mem_of_mem_take hm))
  have hF25d:w2.heap.size∉F18:=fun hm=>(id _ hm).elim hgF (fun h9=>by omega)
  refine Co (k:=0) (w:=w18) YY Z Z (BQ e7.slO) ig sM Ac fun w27 cl l4 dg=>?_
  replace dg:BX w27.heap w2.heap.size [v18]:=dg
  have ih:Az w w27:=cl.below e8 (fun c hc=>by have:=Ab hc;omega) e8.size
  have jy:w18.heap.size≤w27.heap.size:=cl.size
  have ii:=ie.chg cl (fun hm=>by have:=Ab hm;omega)
  have ij:=e7.keep o2 cl (fun b hb hm=>by rw[Ab hb]at hm;exact hF25d hm)
  refine Ah (Ad _ [0,0] Z (AI ((k+1:Nat):Int) Z Z (B8 oM sD) Ac (Ae 1 Z ?_)))
  have hOe:=(ij).up (T':=w27.heap.size) oM
  rw[VE oM]at hOe
  exact⟨((k+1),v18,F18),_,rfl,⟨rfl,rfl,rfl,rfl,rfl,rfl,rfl,trivial⟩,⟨ih,ii,dg,oM,(by exact hOe),(by assumption)⟩,by first|omega|(dsimp only;omega)⟩
 ·refine Ax false Z Z (A8 e2) Ac (Ah (A0 (Aj Z (A6 (As (As (An (A0 (A0 (Ad _ [0,2,0,0] Z (Ao (p:=(.pointer (some ⟨w.heap.size,0,none⟩))) (b:=w.heap.size) (o:=0) 3 Eq Z Z Ac (Ak (p:=(Ay (.pointer (some ⟨w.heap.size,0,none⟩)) 3)) (.inr Z) vtx B6 Z (ax.ldp (i:=3) sM) Ac (AJ (v:=vtx) Bh Z htoT.slL Ac (Ae 1 Z (A5 ?_)))))))))))))))
  refine AN (S:=Nat) (fun i=>([(34,(.int .i64 ((i:Nat):Int))),(1,vr),(2,vw),(3,(.pointer (some ⟨w.heap.size,0,none⟩))),(7,(.pointer (some ⟨w2.heap.size,0,none⟩))),(32,vtx),(33,(.int .i64 ((oT.length:Nat):Int)))])) (fun i W=>Az w W∧BX W.heap w.heap.size [(.int .i64 ipT),vtc,vtg,vtx]∧BX W.heap w2.heap.size [vo]∧i≤oT.length∧Ow (AS (AS rI 2) 27) w1.heap.size W.heap.size W.heap vo (N3 oT ws i (JW R)) Fo) (fun i=>oT.length-i) 0 ⟨rfl,rfl,rfl,rfl,rfl,rfl,rfl,trivial⟩ ⟨e1,ax,ap,oM,(by have h9:=hOl;rw[List.take_of_length_le oM]at h9;exact h9)⟩ ?_
  clear ap ax e1 i6
  rintro i ρ30 w30 ⟨b6,aj,a5,ik,ay⟩
  have e9:w.heap.size≤w30.heap.size:=b6.size
  have hwl:(N3 oT ws i (JW R)).length=T.code.length:=by rw[Eo,D7];exact hlR
  have l5:=aj.lt
  have l6:=a5.lt
  have l7:w2.heap.size<w30.heap.size:=BX.lt a5
  refine A0 (Ad _ [0] Z ?_)
  by_cases ea:((i:Nat):Int)<((oT.length:Nat):Int)
  ·refine Ax true Z Z (A7 ea) Ac (Ah (A0 (Ai Z (A4 (A0 (A5 (A0 (Ad _ [0,0,2,0,0] Z (Af 1 Z (Au (v:=vtx) i Bh BA Z Z htoT.slL Z sD Ac ?_))))))))))
   have il:=RN.getI (w:=w) (k:=i) htoT sD
   refine Ak (p:=Aw vtx i 1) (.inr Z) (.int .i64 (oT.getD i 0)) AH Z (il.1 _ (AE.of_ext [] b6)) Ac (Ae 2 Z (AY _ [1,0,0,1,1,0,0,1,0,1,0,0,0,1,0,0,4] mixed (by kernel_rfl) ?_))
   have hor:=ho i oM
   have hrw:=Ir (m:=m) (ws:=ws) (Hu hsR) (fun q hq=>by have:=ho q hq;rw[D7];omega) i oM (oT.getD i 0).toNat oM
   have l8:=hrw.1
   refine Ak (p:=(.pointer (some ⟨w2.heap.size,0,none⟩))) (.inl Z) vo DX Z (a5.ld (k:=0) sM) Ac (Af 1 Z (Au (v:=vo) ((oT.getD i 0).toNat) Bi AX Z Z ay.slO oM sD Ac ?_))
   obtain⟨dh,eb,ec⟩:=ay.rowO (k:=(oT.getD i 0).toNat) sD
   have ed:=(RN.of ec).lenL
   unfold maxLen at ed
   refine Ak (p:=Aw vo ((oT.getD i 0).toNat) 1) (.inl Z) dh B6 Z eb Ac (Ak (p:=(.pointer (some ⟨w2.heap.size,0,none⟩))) (.inl Z) vo DX Z (a5.ld (k:=0) sM) Ac (Af 1 Z (Au (v:=vo) ((oT.getD i 0).toNat) Bi AX Z Z ay.slO oM sD Ac ?_)))
   obtain⟨di,im,dj⟩:=ay.rowO (k:=(oT.getD i 0).toNat) sD
   have ee:=(RN.of dj).lenL
   unfold maxLen at ee
   refine Ak (p:=Aw vo ((oT.getD i 0).toNat) 1) (.inl Z) di B6 Z im Ac (Au (v:=di) 0 Bh BA Z Z (RN.of dj).slL Z sD Ac ?_)
   have ef:=RN.getI (w:=w30) (k:=0) (RN.of dj) sD
   refine Ak (p:=Aw di 0 1) (.inl Z) (.int .i64 (((N3 oT ws i (JW R)).getD ((oT.getD i 0).toNat) []).getD 0 0)) AH Z (ef.1 _ (AE.refl _ _).drew) Ac (Af 2 Z (Au (v:=vw) i Bh BA Z Z hws.isSl Z sD Ac ?_))
   refine Ak (p:=Aw vw i 1) (.inl Z) (.int .i64 (ws.getD i 0)) AH Z (AP b6.drew (hws.getI sD).1) Ac ?_
   refine AD 79 [] [] [(.int .i64 (((N3 oT ws i (JW R)).getD ((oT.getD i 0).toNat) []).getD 0 0)),(.int .i64 (ws.getD i 0))] Z Z eG Ac (.int .i64 (md ((((N3 oT ws i (JW R)).getD ((oT.getD i 0).toNat) []).getD 0 0)+(ws.getD i 0)))) (fun wq=>I5 wq _ _ ef.2 (hws.getI sD).2) ?_
   refine Au (v:=dh) 0 Bh BA Z Z (RN.of ec).slL Z sD Ac ?_
   refine YF (v:=vo) (u:=dh) (w:=w30.drew) ID Z Z (Dt _) ay sD eb sD Ac fun w39 G39 bj l9 dk io=>?_
   replace bj:=bj.of_drew
   have jz:w30.heap.size≤w39.heap.size:=bj.size
   have ip:Az w w39:=bj.below b6 (fun c hc=>Aa hLBc (ay.low c (dk c hc))) b6.size
   have iq:=aj.chg bj (fun hm=>by have:=ay.low _ (dk _ hm);omega)
   have ir:=a5.chg bj (fun hm=>hgF (dk _ hm))
   refine Ah (Ad _ [0,0] Z (AI ((i+1:Nat):Int) Z Z (B8 oM sD) Ac (Ae 1 Z ?_)))
   have hOe:=(io).up (T':=w39.heap.size) oM
   exact⟨(i+1),_,rfl,⟨rfl,rfl,rfl,rfl,rfl,rfl,rfl,trivial⟩,⟨ip,iq,ir,oM,(by exact hOe)⟩,by first|omega|(dsimp only;omega)⟩
  ·refine Ax false Z Z (A8 ea) Ac (Ah (A0 (Aj Z (A6 (As (As (An (A0 (A0 (Ad _ [0,2,0,0,0] Z ?_))))))))))
   have hOw:=ay
   rw[show i=oT.length from by omega]at hOw
   obtain⟨la,F0,is,k0⟩:=Ii.ofOw (S:=S) hOw (fun b hb=>by have:=c1 b hb;omega)
   have cm:w2.heap.size∉F0:=fun hm=>hgF (k0 _ hm)
   obtain⟨BO,hBO⟩:∃b:Nat,b=w1.heap.size:=⟨_,rfl⟩
   rw[← hBO]at is
   have hwB:w.heap.size≤BO:=by omega
   have hSB:∀b∈S,b<BO:=fun b hb=>by have:=c1 b hb;omega
   obtain⟨B0,gw⟩:∃l:List Sr,l=N3 oT ws oT.length (JW R):=⟨_,rfl⟩
   rw[← gw]at is
   have lb:Bt m B0:=by rw[gw];exact Ir (Hu hsR) (fun q hq=>by have:=ho q hq;rw[D7];omega) _ (A9 _)
   have lc:B0.length=T.code.length:=by rw[gw,Eo,D7];exact hlR
   refine Ao (p:=(.pointer (some ⟨w.heap.size,0,none⟩))) (b:=w.heap.size) (o:=0) 1 Gx Z Z Ac (Ak (p:=(Ay (.pointer (some ⟨w.heap.size,0,none⟩)) 1)) (.inr Z) vtc Mx Z (aj.ldp (i:=1) sM) Ac (AJ (v:=vtc) My Z htcT.isSl Ac ?_))
   refine Cy (((T.code.length:Nat):Int)-((1:Nat):Int)) Z Z (FR sD sD) Ac (Ae 1 Z (A5 ?_))
   refine AN (S:=Int×List Sr×List Value) (fun⟨kk,xs,us⟩=>([(12,(.int .i64 kk)),(1,vr),(3,(.pointer (some ⟨w.heap.size,0,none⟩))),(7,(.pointer (some ⟨w2.heap.size,0,none⟩)))])) (fun⟨kk,xs,us⟩ W=>Az w W∧BX W.heap w.heap.size [(.int .i64 ipT),vtc,vtg,vtx]∧BX W.heap w2.heap.size [vo]∧(-1≤kk∧kk<((T.code.length:Nat):Int))∧Ii 27 S BO W.heap vo xs us F0∧Bt m xs∧xs.length=T.code.length∧TF T.code R (kk+1).toNat xs=TF T.code R T.code.length B0) (fun⟨kk,xs,us⟩=>(kk+1).toNat) ((T.code.length:Int)-1,B0,la) ⟨rfl,rfl,rfl,rfl,trivial⟩ ⟨b6,aj,a5,oM,(by exact is),(by exact lb),(by exact lc),(by rw[show((T.code.length:Int)-1+1).toNat=T.code.length from by omega])⟩ ?_
   clear a5 aj b6 e9 k0
   rintro⟨kk,xs,us⟩ ρ42 w42 ⟨cn,au,a8,it,hbl,hxs,hxl,hadj⟩
   have k1:w.heap.size≤w42.heap.size:=cn.size
   have le:=au.lt
   have lf:=a8.lt
   have hFl:∀b∈F0,b<w42.heap.size:=hbl.lt
   have lg:=BX.lt a8
   refine A0 (A0 (Ad _ [0,0] Z (Af 1 Z ?_)))
   by_cases eg:((0:Nat):Int)≤kk
   ·refine Gq true Z Z (A7 eg) Ac (Ah (Ai Z (A4 (A0 (A5 (A0 ?_))))))
    letI:JR:=f9 [w42.drew.heap.size]
    refine Jx.AY _ [0,1,0,0,1,1,0,0,1,3,3,0] mixed (by kernel_rfl) ?_
    have ba:∀wj,AE [w42.drew.heap.size] w42.drew wj→Az w42.drew wj:=fun wj hj=>AE.toExt hj (fun b hb=>Nat.le_of_eq (Ab hb).symm)
    have hkn:kk.toNat<T.code.length:=by omega
    have hro:=hxs kk.toNat oM
    have lh:=hro.1
    have hRk:=hsR kk.toNat oM
    have li:=hRk.1
    refine Jx.Ao (p:=(.pointer (some ⟨w.heap.size,0,none⟩))) (b:=w.heap.size) (o:=0) 1 Gx Z Z Ac (Jx.jQ (p:=(Ay (.pointer (some ⟨w.heap.size,0,none⟩)) 1)) vtc Mx Z (fun wj hj=>(BX.ext (w:=w42.drew) au (ba wj hj)).ldp (i:=1) sM) Ac (Jx.bF (.int .i64 kk) Z Ac (Jx.Au (v:=vtc) ((kk).toNat) My I4 Z Z htcT.isSl oM sD Ac ?_)))
    obtain⟨cs49,iu,iv⟩:=htcT.get AO AF.zero (k:=((kk).toNat)) sD
    obtain⟨rfl,av⟩:=QP iu
    refine Jx.fa (p:=Aw vtc ((kk).toNat) 4) [(.int .i64 ((T.code.getD ((kk).toNat) AF.zero).op)),(.int .i64 ((T.code.getD ((kk).toNat) AF.zero).a)),(.int .i64 ((T.code.getD ((kk).toNat) AF.zero).b)),(.int .i64 ((T.code.getD ((kk).toNat) AF.zero).num))] Ft Z (fun wj hj=>iv wj (AE.of_ext [] (cn.drew.trans (ba wj hj)))) Z Ac (Jx.jQ (p:=(.pointer (some ⟨w2.heap.size,0,none⟩))) vo DX Z (fun wj hj=>(BX.ext (w:=w42.drew) a8 (ba wj hj)).ldp (i:=0) sM) Ac (Jx.bF (.int .i64 kk) Z Ac ?_))
    refine Jx.Au (v:=vo) ((kk).toNat) Bi AX Z Z (hbl.done hSB).none.slL oM sD Ac ?_
    obtain⟨a9,iw,dl⟩:=hbl.getF (k:=(kk).toNat) sD
    have eh:=dl.lenL
    unfold maxLen at eh
    refine Jx.jQ (p:=Aw vo ((kk).toNat) 1) a9 B6 Z (fun wj hj=>AP (w:=w42.drew) (ba wj hj) iw) Ac ?_
    have lj:=au.lt
    have lk:=a8.lt
    have k2:w42.drew.heap.size=w42.heap.size:=rfl
    refine Jx.kA (BJ (z:=.agg #[.int .i64 0,.int .i64 0,.int .i64 0,.int .i64 0]) SR Ac ?_)
    intro w52 ac ll dm
    refine Ah ?_
    replace ac:=ac.of_drew
    have k3:=ac.size
    have ei:=cn.trans ac
    have bk:=au.ext ac
    have bl:=a8.ext ac
    have lm:=hbl.ext ac
    have ln:=dl.ext g1 ac
    replace dm:BX w52.heap w42.drew.heap.size [(.int .i64 0),(.int .i64 0),(.int .i64 0),(.int .i64 0)]:=dm
    refine Jx.lC (CT (vs:=[(.int .i64 ((T.code.getD ((kk).toNat) AF.zero).op)),(.int .i64 ((T.code.getD ((kk).toNat) AF.zero).a)),(.int .i64 ((T.code.getD ((kk).toNat) AF.zero).b)),(.int .i64 ((T.code.getD ((kk).toNat) AF.zero).num))]) Ft Z Z (by intro u hu;simp only[List.mem_cons,List.not_mem_nil,or_false]at hu;rcases hu with rfl|rfl|rfl|rfl <;> first|exact⟨rfl,rfl⟩) dm Z Z Ac fun w57 b7 lo a6=>?_)
    replace a6:BX w57.heap w42.drew.heap.size [(.int .i64 ((T.code.getD ((kk).toNat) AF.zero).op)),(.int .i64 ((T.code.getD ((kk).toNat) AF.zero).a)),(.int .i64 ((T.code.getD ((kk).toNat) AF.zero).b)),(.int .i64 ((T.code.getD ((kk).toNat) AF.zero).num))]:=a6
    have ad:Az w w57:=b7.below ei (fun c hc=>by have:=Ab hc;omega) ei.size
    have k4:w52.heap.size≤w57.heap.size:=b7.size
    have bm:=bk.chg b7 (fun hm=>by have:=Ab hm;omega)
    have az:=bl.chg b7 (fun hm=>by have:=Ab hm;omega)
    have ae:=hbl.ext (b7.below ac (fun c hc=>by have:=Ab hc;omega) ac.size)
    have an:=dl.ext g1 (b7.below ac (fun c hc=>by have:=Ab hc;omega) ac.size)
    refine Ah ⟨b7,?_⟩
    refine Jx.TN a9 Z Ac (Jx.Ah (A0 (Ad _ [0,0] Z (Ql [] [(.pointer (some ⟨w2.heap.size,0,none⟩))] Z Z Ac (Ae 1 Z (A0 (Ad _ [0,2] Z (Ao (p:=(.pointer (some ⟨w42.drew.heap.size,0,none⟩))) (b:=w42.drew.heap.size) (o:=0) 0 LE Z Z Ac (Ak (p:=(Ay (.pointer (some ⟨w42.drew.heap.size,0,none⟩)) 0)) (.inr Z) (.int .i64 ((T.code.getD ((kk).toNat) AF.zero).op)) AH Z (a6.ldp (i:=0) sM) Ac (Ah (A5 (A0 (Ad _ [0,0] Z ?_)))))))))))))
    by_cases ej:(T.code.getD ((kk).toNat) AF.zero).op=((3:Nat):Int)
    ·refine AA true Z Z (A7 ej) Ac (Ae 1 Z (Ai Z (A0 (Ad _ [0,0,2,0,4] Z ?_))))
     have hio:=(hform kk.toNat hkn).i2 oM
     have hra:=hxs (T.code.getD kk.toNat AF.zero).a.toNat oM
     have co:=hra.1
     have hRa:=hsR (T.code.getD kk.toNat AF.zero).a.toNat oM
     have hRb:=hsR (T.code.getD kk.toNat AF.zero).b.toNat oM
     have dn:=hRa.1
     have dp:=hRb.1
     refine Af 1 Z (Ao (p:=(.pointer (some ⟨w42.drew.heap.size,0,none⟩))) (b:=w42.drew.heap.size) (o:=0) 1 DI Z Z Ac (Ak (p:=(Ay (.pointer (some ⟨w42.drew.heap.size,0,none⟩)) 1)) (.inr Z) (.int .i64 ((T.code.getD ((kk).toNat) AF.zero).a)) AH Z (a6.ldp (i:=1) sM) Ac (Af 1 Z ?_)))
     refine B1 220 [] [(.pointer (some ⟨w2.heap.size,0,none⟩))] [(.int .i64 ((T.code.getD ((kk).toNat) AF.zero).a)),a9,(.pointer (some ⟨w2.heap.size,0,none⟩))] Z Z K2 Ac (Bk _ ((T.code.getD ((kk).toNat) AF.zero).a) a9 (xs.getD ((kk).toNat) []) S w2.heap.size vo (xs) _ _ BO av.2.1 an.rd (az.ld (k:=0) sM) ae hSB (fun b hb=>by have:=c1 b hb;omega) oM HA (by exact hra.2) HB) ?_
     rintro e63 w63 ⟨rfl,bn,lp,cp⟩
     refine⟨_,rfl,?_⟩
     have k5:w57.heap.size≤w63.heap.size:=bn.size
     have ek:Az w w63:=bn.below ad (fun c hc=>Aa hwB (ae.low c hc)) ad.size
     have ix:=bm.chg bn (fun hm=>by have:=ae.low _ hm;have:=hFl _ hm;omega)
     have el:=az.chg bn (fun hm=>cm hm)
     have em:=a6.chg bn (fun hm=>by have:=ae.low _ hm;have:=hFl _ hm;omega)
     have en:=an.chg g1 (bn.sub (fun b hb=>List.mem_append_right _ hb))
     have dq:Bt m (FH xs (T.code.getD kk.toNat AF.zero).a (xs.getD kk.toNat [])):=D8 hxs oM
     have iy:(FH xs (T.code.getD kk.toNat AF.zero).a (xs.getD kk.toNat [])).length=T.code.length:=by rw[C4];exact hxl
     have hrb:=dq (T.code.getD kk.toNat AF.zero).b.toNat oM
     have dr:=hrb.1
     refine Ah (Ad _ [0,0,2,0,4] Z (Af 1 Z (Ao (p:=(.pointer (some ⟨w42.drew.heap.size,0,none⟩))) (b:=w42.drew.heap.size) (o:=0) 2 Do Z Z Ac (Ak (p:=(Ay (.pointer (some ⟨w42.drew.heap.size,0,none⟩)) 2)) (.inr Z) (.int .i64 ((T.code.getD ((kk).toNat) AF.zero).b)) AH Z (em.ldp (i:=2) sM) Ac (Af 1 Z ?_)))))
     refine B1 220 [] [(.pointer (some ⟨w2.heap.size,0,none⟩))] [(.int .i64 ((T.code.getD ((kk).toNat) AF.zero).b)),a9,(.pointer (some ⟨w2.heap.size,0,none⟩))] Z Z K2 Ac (Bk _ ((T.code.getD ((kk).toNat) AF.zero).b) a9 (xs.getD ((kk).toNat) []) S w2.heap.size vo (FH xs ((T.code.getD ((kk).toNat) AF.zero).a) (xs.getD ((kk).toNat) [])) _ _ BO av.2.2.1 en.rd (el.ld (k:=0) sM) cp hSB (fun b hb=>by have:=c1 b hb;omega) oM HA (by exact hrb.2) HB) ?_
     rintro e73 w73 ⟨rfl,bo,iz,j0⟩
     refine⟨_,rfl,?_⟩
     have k6:w63.heap.size≤w73.heap.size:=bo.size
     have j1:Az w w73:=bo.below ek (fun c hc=>Aa hwB (cp.low c hc)) ek.size
     have j2:=ix.chg bo (fun hm=>by have:=cp.low _ hm;have:=hFl _ hm;omega)
     have j3:=el.chg bo (fun hm=>cm hm)
     have lq:=em.chg bo (fun hm=>by have:=cp.low _ hm;have:=hFl _ hm;omega)
     have lr:=en.chg g1 (bo.sub (fun b hb=>List.mem_append_right _ hb))
     refine Ah (Ad _ [0,0,0] Z (Af 1 Z (Cy (kk-((1:Nat):Int)) Z Z (FR sD sD) Ac (Ae 1 Z ?_))))
     have hbe:=j0
     exact⟨((kk-1),(FH (FH xs ((T.code.getD ((kk).toNat) AF.zero).a) (xs.getD ((kk).toNat) [])) ((T.code.getD ((kk).toNat) AF.zero).b) (xs.getD ((kk).toNat) [])),iz),_,rfl,⟨rfl,rfl,rfl,rfl,trivial⟩,⟨j1,j2,j3,oM,(by exact hbe),KN,KO,KM⟩,by first|omega|(dsimp only;omega)⟩
    ·refine AA false Z Z (A8 ej) Ac (Ae 1 Z (Aj Z (A0 (Ad _ [0,0] Z ?_))))
     by_cases eo:(T.code.getD ((kk).toNat) AF.zero).op=((4:Nat):Int)
     ·refine AA true Z Z (A7 eo) Ac (Ae 1 Z (Ai Z (A0 (Ad _ [0,0,2,0,4] Z ?_))))
      have hio:=(hform kk.toNat hkn).i2 oM
      have hra:=hxs (T.code.getD kk.toNat AF.zero).a.toNat oM
      have co:=hra.1
      have hRa:=hsR (T.code.getD kk.toNat AF.zero).a.toNat oM
      have hRb:=hsR (T.code.getD kk.toNat AF.zero).b.toNat oM
      have dn:=hRa.1
      have dp:=hRb.1
      refine Af 1 Z (Ao (p:=(.pointer (some ⟨w42.drew.heap.size,0,none⟩))) (b:=w42.drew.heap.size) (o:=0) 1 DI Z Z Ac (Ak (p:=(Ay (.pointer (some ⟨w42.drew.heap.size,0,none⟩)) 1)) (.inr Z) (.int .i64 ((T.code.getD ((kk).toNat) AF.zero).a)) AH Z (a6.ldp (i:=1) sM) Ac (Af 1 Z ?_)))
      refine B1 220 [] [(.pointer (some ⟨w2.heap.size,0,none⟩))] [(.int .i64 ((T.code.getD ((kk).toNat) AF.zero).a)),a9,(.pointer (some ⟨w2.heap.size,0,none⟩))] Z Z K2 Ac (Bk _ ((T.code.getD ((kk).toNat) AF.zero).a) a9 (xs.getD ((kk).toNat) []) S w2.heap.size vo (xs) _ _ BO av.2.1 an.rd (az.ld (k:=0) sM) ae hSB (fun b hb=>by have:=c1 b hb;omega) oM HA (by exact hra.2) HB) ?_
      rintro e84 w84 ⟨rfl,bp,ls,j4⟩
      refine⟨_,rfl,?_⟩
      have k7:w57.heap.size≤w84.heap.size:=bp.size
      have j5:Az w w84:=bp.below ad (fun c hc=>Aa hwB (ae.low c hc)) ad.size
      have j6:=bm.chg bp (fun hm=>by have:=ae.low _ hm;have:=hFl _ hm;omega)
      have j7:=az.chg bp (fun hm=>cm hm)
      have ep:=a6.chg bp (fun hm=>by have:=ae.low _ hm;have:=hFl _ hm;omega)
      have eq:=an.chg g1 (bp.sub (fun b hb=>List.mem_append_right _ hb))
      have dq:Bt m (FH xs (T.code.getD kk.toNat AF.zero).a (xs.getD kk.toNat [])):=D8 hxs oM
      have iy:(FH xs (T.code.getD kk.toNat AF.zero).a (xs.getD kk.toNat [])).length=T.code.length:=by rw[C4];exact hxl
      have hrb:=dq (T.code.getD kk.toNat AF.zero).b.toNat oM
      have dr:=hrb.1
      refine Ah (AY _ [0,0,1,0,3,4] mixed (by kernel_rfl) (Af 1 Z (Ao (p:=(.pointer (some ⟨w42.drew.heap.size,0,none⟩))) (b:=w42.drew.heap.size) (o:=0) 2 Do Z Z Ac (Ak (p:=(Ay (.pointer (some ⟨w42.drew.heap.size,0,none⟩)) 2)) (.inl Z) (.int .i64 ((T.code.getD ((kk).toNat) AF.zero).b)) AH Z (ep.ldp (i:=2) sM) Ac (Af 1 Z (Ap 103 [] [] [a9,(.int .i64 ((1000002:Nat):Int))] Z Z O2 Ac (De _ _ _ _ eq.rd oM Ge Gd oM) ?_))))))
      rintro e94 w94 ⟨cv,rfl,ao,aw⟩
      refine⟨_,rfl,ao,?_⟩
      replace ao:=ao.of_drew
      have k8:=ao.size
      have er:=j5.trans ao
      have cq:=j6.ext ao
      have bb:=j7.ext ao
      have cr:=ep.ext ao
      have ct:=j4.ext ao
      have j8:=eq.ext g1 ao
      replace aw:=aw.low (B':=w84.heap.size) (A9 _)
      refine B1 220 [] [(.pointer (some ⟨w2.heap.size,0,none⟩))] [(.int .i64 ((T.code.getD ((kk).toNat) AF.zero).b)),cv,(.pointer (some ⟨w2.heap.size,0,none⟩))] Z Z K2 Ac (Bk _ ((T.code.getD ((kk).toNat) AF.zero).b) cv (CD (xs.getD ((kk).toNat) []) ((1000002:Nat):Int)) S w2.heap.size vo (FH xs ((T.code.getD ((kk).toNat) AF.zero).a) (xs.getD ((kk).toNat) [])) _ _ BO av.2.2.1 aw.rd1 (bb.ld (k:=0) sM) ct hSB (fun b hb=>by have:=c1 b hb;omega) oM HA (by exact hrb.2) HB) ?_
      rintro e97 w97 ⟨rfl,b8,j9,ja⟩
      refine⟨_,rfl,?_⟩
      have k9:w94.heap.size≤w97.heap.size:=b8.size
      have jb:Az w w97:=b8.below er (fun c hc=>Aa hwB (ct.low c hc)) er.size
      have es:=cq.chg b8 (fun hm=>by have:=ct.low _ hm;have:=hFl _ hm;omega)
      have et:=bb.chg b8 (fun hm=>cm hm)
      have ka:=cr.chg b8 (fun hm=>by have:=ct.low _ hm;have:=hFl _ hm;omega)
      have kb:=j8.chg g1 (b8.sub (fun b hb=>List.mem_append_right _ hb))
      have kc:=aw.chg (o1) b8 (fun c hc=>by have:=hFl c hc;omega)
      refine Ah (Ad _ [0,0,0] Z (Af 1 Z (Cy (kk-((1:Nat):Int)) Z Z (FR sD sD) Ac (Ae 1 Z ?_))))
      have hbe:=ja
      exact⟨((kk-1),(FH (FH xs ((T.code.getD ((kk).toNat) AF.zero).a) (xs.getD ((kk).toNat) [])) ((T.code.getD ((kk).toNat) AF.zero).b) (CD (xs.getD ((kk).toNat) []) ((1000002:Nat):Int))),j9),_,rfl,⟨rfl,rfl,rfl,rfl,trivial⟩,⟨jb,es,et,oM,(by exact hbe),KN,KO,KM⟩,by first|omega|(dsimp only;omega)⟩
     ·refine AA false Z Z (A8 eo) Ac (Ae 1 Z (Aj Z (A0 (Ad _ [0,0] Z ?_))))
      by_cases cw:(T.code.getD ((kk).toNat) AF.zero).op=((5:Nat):Int)
      ·refine AA true Z Z (A7 cw) Ac (Ae 1 Z (Ai Z (A0 (AY _ [0,0,1,0,0,0,1,0,1,3,4] mixed (by kernel_rfl) ?_))))
       have hio:=(hform kk.toNat hkn).i2 oM
       have hra:=hxs (T.code.getD kk.toNat AF.zero).a.toNat oM
       have co:=hra.1
       have hRa:=hsR (T.code.getD kk.toNat AF.zero).a.toNat oM
       have hRb:=hsR (T.code.getD kk.toNat AF.zero).b.toNat oM
       have dn:=hRa.1
       have dp:=hRb.1
       refine Af 1 Z (Ao (p:=(.pointer (some ⟨w42.drew.heap.size,0,none⟩))) (b:=w42.drew.heap.size) (o:=0) 1 DI Z Z Ac (Ak (p:=(Ay (.pointer (some ⟨w42.drew.heap.size,0,none⟩)) 1)) (.inl Z) (.int .i64 ((T.code.getD ((kk).toNat) AF.zero).a)) AH Z (a6.ldp (i:=1) sM) Ac (Af 2 Z (Ao (p:=(.pointer (some ⟨w42.drew.heap.size,0,none⟩))) (b:=w42.drew.heap.size) (o:=0) 2 Do Z Z Ac (Ak (p:=(Ay (.pointer (some ⟨w42.drew.heap.size,0,none⟩)) 2)) (.inl Z) (.int .i64 ((T.code.getD ((kk).toNat) AF.zero).b)) AH Z (a6.ldp (i:=2) sM) Ac ?_)))))
       refine Au (v:=vr) (((T.code.getD ((kk).toNat) AF.zero).b).toNat) Bi AX Z Z hR.slL oM sD Ac ?_
       obtain⟨cx,eu,cy⟩:=RN.getL (w:=w) g1 [] (k:=((T.code.getD ((kk).toNat) AF.zero).b).toNat) hR sD
       have ds:=cy.lenL
       unfold maxLen at ds
       refine Ak (p:=Aw vr (((T.code.getD ((kk).toNat) AF.zero).b).toNat) 1) (.inl Z) cx B6 Z (eu _ (AE.of_ext [] ad.drew)) Ac (Ap 151 [] [] [a9,cx] Z Z Qc Ac (Dy _ _ _ _ _ an.rd ((cy.ext g1 ad.drew)).rd Ge Ge Gd Gd) ?_)
       rintro e110 w110 ⟨c8,rfl,a2,af⟩
       refine⟨_,rfl,a2,?_⟩
       replace a2:=a2.of_drew
       have jc:=a2.size
       have cz:=ad.trans a2
       have c9:=bm.ext a2
       have b0:=az.ext a2
       have ca:=a6.ext a2
       have bc:=ae.ext a2
       have ev:=an.ext g1 a2
       replace af:=af.low (B':=w57.heap.size) (A9 _)
       refine B1 220 [] [(.pointer (some ⟨w2.heap.size,0,none⟩))] [(.int .i64 ((T.code.getD ((kk).toNat) AF.zero).a)),c8,(.pointer (some ⟨w2.heap.size,0,none⟩))] Z Z K2 Ac (Bk _ ((T.code.getD ((kk).toNat) AF.zero).a) c8 (C7 (xs.getD ((kk).toNat) []) (R.getD (((T.code.getD ((kk).toNat) AF.zero).b).toNat) [])) S w2.heap.size vo (xs) _ _ BO av.2.1 af.rd1 (b0.ld (k:=0) sM) bc hSB (fun b hb=>by have:=c1 b hb;omega) oM HA (by exact hra.2) HB) ?_
       rintro e113 w113 ⟨rfl,ak,kd,ew⟩
       refine⟨_,rfl,?_⟩
       have jd:w110.heap.size≤w113.heap.size:=ak.size
       have cb:Az w w113:=ak.below cz (fun c hc=>Aa hwB (bc.low c hc)) cz.size
       have ex:=c9.chg ak (fun hm=>by have:=bc.low _ hm;have:=hFl _ hm;omega)
       have ey:=b0.chg ak (fun hm=>cm hm)
       have cc:=ca.chg ak (fun hm=>by have:=bc.low _ hm;have:=hFl _ hm;omega)
       have d0:=ev.chg g1 (ak.sub (fun b hb=>List.mem_append_right _ hb))
       have ez:=af.chg (o1) ak (fun c hc=>by have:=hFl c hc;omega)
       have dq:Bt m (FH xs (T.code.getD kk.toNat AF.zero).a (C7 (xs.getD kk.toNat []) (R.getD (T.code.getD kk.toNat AF.zero).b.toNat []))):=D8 hxs oM
       have iy:(FH xs (T.code.getD kk.toNat AF.zero).a (C7 (xs.getD kk.toNat []) (R.getD (T.code.getD kk.toNat AF.zero).b.toNat []))).length=T.code.length:=by rw[C4];exact hxl
       have hrb:=dq (T.code.getD kk.toNat AF.zero).b.toNat oM
       have dr:=hrb.1
       refine Ah (AY _ [0,0,1,0,0,0,1,0,1,3,4] mixed (by kernel_rfl) (Af 1 Z (Ao (p:=(.pointer (some ⟨w42.drew.heap.size,0,none⟩))) (b:=w42.drew.heap.size) (o:=0) 2 Do Z Z Ac (Ak (p:=(Ay (.pointer (some ⟨w42.drew.heap.size,0,none⟩)) 2)) (.inl Z) (.int .i64 ((T.code.getD ((kk).toNat) AF.zero).b)) AH Z (cc.ldp (i:=2) sM) Ac (Af 2 Z (Ao (p:=(.pointer (some ⟨w42.drew.heap.size,0,none⟩))) (b:=w42.drew.heap.size) (o:=0) 1 DI Z Z Ac (Ak (p:=(Ay (.pointer (some ⟨w42.drew.heap.size,0,none⟩)) 1)) (.inl Z) (.int .i64 ((T.code.getD ((kk).toNat) AF.zero).a)) AH Z (cc.ldp (i:=1) sM) Ac ?_)))))))
       refine Au (v:=vr) (((T.code.getD ((kk).toNat) AF.zero).a).toNat) Bi AX Z Z hR.slL oM sD Ac ?_
       obtain⟨d1,g0,d2⟩:=RN.getL (w:=w) g1 [] (k:=((T.code.getD ((kk).toNat) AF.zero).a).toNat) hR sD
       have dt:=d2.lenL
       unfold maxLen at dt
       refine Ak (p:=Aw vr (((T.code.getD ((kk).toNat) AF.zero).a).toNat) 1) (.inl Z) d1 B6 Z (g0 _ (AE.of_ext [] cb.drew)) Ac (Ap 151 [] [] [a9,d1] Z Z Qc Ac (Dy _ _ _ _ _ d0.rd ((d2.ext g1 cb.drew)).rd Ge Ge Gd Gd) ?_)
       rintro e126 w126 ⟨cd,rfl,a0,ag⟩
       refine⟨_,rfl,a0,?_⟩
       replace a0:=a0.of_drew
       have je:=a0.size
       have d3:=cb.trans a0
       have bq:=ex.ext a0
       have aq:=ey.ext a0
       have br:=cc.ext a0
       have bs:=ez.ext (o1) a0
       have bd:=ew.ext a0
       have g2:=d0.ext g1 a0
       replace ag:=ag.low (B':=w113.heap.size) (A9 _)
       refine B1 220 [] [(.pointer (some ⟨w2.heap.size,0,none⟩))] [(.int .i64 ((T.code.getD ((kk).toNat) AF.zero).b)),cd,(.pointer (some ⟨w2.heap.size,0,none⟩))] Z Z K2 Ac (Bk _ ((T.code.getD ((kk).toNat) AF.zero).b) cd (C7 (xs.getD ((kk).toNat) []) (R.getD (((T.code.getD ((kk).toNat) AF.zero).a).toNat) [])) S w2.heap.size vo (FH xs ((T.code.getD ((kk).toNat) AF.zero).a) (C7 (xs.getD ((kk).toNat) []) (R.getD (((T.code.getD ((kk).toNat) AF.zero).b).toNat) []))) _ _ BO av.2.2.1 ag.rd1 (aq.ld (k:=0) sM) bd hSB (fun b hb=>by have:=c1 b hb;omega) oM HA (by exact hrb.2) HB) ?_
       rintro e129 w129 ⟨rfl,aa,g3,g4⟩
       refine⟨_,rfl,?_⟩
       have jf:w126.heap.size≤w129.heap.size:=aa.size
       have g5:Az w w129:=aa.below d3 (fun c hc=>Aa hwB (bd.low c hc)) d3.size
       have g6:=bq.chg aa (fun hm=>by have:=bd.low _ hm;have:=hFl _ hm;omega)
       have g7:=aq.chg aa (fun hm=>cm hm)
       have ke:=br.chg aa (fun hm=>by have:=bd.low _ hm;have:=hFl _ hm;omega)
       have kf:=g2.chg g1 (aa.sub (fun b hb=>List.mem_append_right _ hb))
       have kg:=bs.chg (o1) aa (fun c hc=>by have:=hFl c hc;omega)
       have kh:=ag.chg (o1) aa (fun c hc=>by have:=hFl c hc;omega)
       refine Ah (Ad _ [0,0,0] Z (Af 1 Z (Cy (kk-((1:Nat):Int)) Z Z (FR sD sD) Ac (Ae 1 Z ?_))))
       have hbe:=g4
       exact⟨((kk-1),(FH (FH xs ((T.code.getD ((kk).toNat) AF.zero).a) (C7 (xs.getD ((kk).toNat) []) (R.getD (((T.code.getD ((kk).toNat) AF.zero).b).toNat) []))) ((T.code.getD ((kk).toNat) AF.zero).b) (C7 (xs.getD ((kk).toNat) []) (R.getD (((T.code.getD ((kk).toNat) AF.zero).a).toNat) []))),g3),_,rfl,⟨rfl,rfl,rfl,rfl,trivial⟩,⟨g5,g6,g7,oM,(by exact hbe),KN,KO,KM⟩,by first|omega|(dsimp only;omega)⟩
      ·refine AA false Z Z (A8 cw) Ac (Ae 1 Z (Aj Z (A0 (Ad _ [0,0] Z ?_))))
       by_cases d4:(T.code.getD ((kk).toNat) AF.zero).op=((6:Nat):Int)
       ·refine AA true Z Z (A7 d4) Ac (Ae 1 Z (Ai Z (A0 (Ad _ [0,0,0,2,0,2,3,0] Z ?_))))
        have hio:=(hform kk.toNat hkn).i2 oM
        have hra:=hxs (T.code.getD kk.toNat AF.zero).a.toNat oM
        have co:=hra.1
        have hRa:=hsR (T.code.getD kk.toNat AF.zero).a.toNat oM
        have hRb:=hsR (T.code.getD kk.toNat AF.zero).b.toNat oM
        have dn:=hRa.1
        have dp:=hRb.1
        refine Af 2 Z (Ao (p:=(.pointer (some ⟨w42.drew.heap.size,0,none⟩))) (b:=w42.drew.heap.size) (o:=0) 2 Do Z Z Ac (Ak (p:=(Ay (.pointer (some ⟨w42.drew.heap.size,0,none⟩)) 2)) (.inr Z) (.int .i64 ((T.code.getD ((kk).toNat) AF.zero).b)) AH Z (a6.ldp (i:=2) sM) Ac (Au (v:=vr) (((T.code.getD ((kk).toNat) AF.zero).b).toNat) Bi AX Z Z hR.slL oM sD Ac ?_)))
        obtain⟨d5,g8,d6⟩:=RN.getL (w:=w) g1 [] (k:=((T.code.getD ((kk).toNat) AF.zero).b).toNat) hR sD
        have du:=d6.lenL
        unfold maxLen at du
        refine Ak (p:=Aw vr (((T.code.getD ((kk).toNat) AF.zero).b).toNat) 1) (.inr Z) d5 B6 Z (g8 _ (AE.of_ext [] ad)) Ac (Ap 185 [] [] [a9,d5] Z Z Xc Ac (Fx _ _ _ _ _ an.rd ((d6.ext g1 ad)).rd Ge Ge oM Gd Gd) ?_)
        rintro e145 w145 ⟨b9,rfl,ab,be⟩
        refine⟨_,rfl,ab,?_⟩
        have jg:=ab.size
        have d7:=ad.trans ab
        have ce:=bm.ext ab
        have b1:=az.ext ab
        have b2:=a6.ext ab
        have bf:=ae.ext ab
        have g9:=an.ext g1 ab
        refine Ae 1 Z (A0 (Ad _ [0,0,2,0,4] Z (Af 1 Z (Ao (p:=(.pointer (some ⟨w42.drew.heap.size,0,none⟩))) (b:=w42.drew.heap.size) (o:=0) 1 DI Z Z Ac (Ak (p:=(Ay (.pointer (some ⟨w42.drew.heap.size,0,none⟩)) 1)) (.inr Z) (.int .i64 ((T.code.getD ((kk).toNat) AF.zero).a)) AH Z (b2.ldp (i:=1) sM) Ac (Af 1 Z ?_))))))
        refine B1 220 [] [(.pointer (some ⟨w2.heap.size,0,none⟩))] [(.int .i64 ((T.code.getD ((kk).toNat) AF.zero).a)),b9,(.pointer (some ⟨w2.heap.size,0,none⟩))] Z Z K2 Ac (Bk _ ((T.code.getD ((kk).toNat) AF.zero).a) b9 (BR (xs.getD ((kk).toNat) []) (R.getD (((T.code.getD ((kk).toNat) AF.zero).b).toNat) [])) S w2.heap.size vo (xs) _ _ BO av.2.1 be.rd1 (b1.ld (k:=0) sM) bf hSB (fun b hb=>by have:=c1 b hb;omega) oM HA (by exact hra.2) HB) ?_
        rintro e148 w148 ⟨rfl,al,ki,ga⟩
        refine⟨_,rfl,?_⟩
        have jh:w145.heap.size≤w148.heap.size:=al.size
        have cf:Az w w148:=al.below d7 (fun c hc=>Aa hwB (bf.low c hc)) d7.size
        have gb:=ce.chg al (fun hm=>by have:=bf.low _ hm;have:=hFl _ hm;omega)
        have gc:=b1.chg al (fun hm=>cm hm)
        have d8:=b2.chg al (fun hm=>by have:=bf.low _ hm;have:=hFl _ hm;omega)
        have gd:=g9.chg g1 (al.sub (fun b hb=>List.mem_append_right _ hb))
        have d9:=be.chg (o1) al (fun c hc=>by have:=hFl c hc;omega)
        have dq:Bt m (FH xs (T.code.getD kk.toNat AF.zero).a (BR (xs.getD kk.toNat []) (R.getD (T.code.getD kk.toNat AF.zero).b.toNat []))):=D8 hxs oM
        have iy:(FH xs (T.code.getD kk.toNat AF.zero).a (BR (xs.getD kk.toNat []) (R.getD (T.code.getD kk.toNat AF.zero).b.toNat []))).length=T.code.length:=by rw[C4];exact hxl
        have hrb:=dq (T.code.getD kk.toNat AF.zero).b.toNat oM
        have dr:=hrb.1
        refine Ah (AY _ [0,0,1,0,0,0,0,1,3,3,4] mixed (by kernel_rfl) (Af 1 Z (Ao (p:=(.pointer (some ⟨w42.drew.heap.size,0,none⟩))) (b:=w42.drew.heap.size) (o:=0) 2 Do Z Z Ac (Ak (p:=(Ay (.pointer (some ⟨w42.drew.heap.size,0,none⟩)) 2)) (.inl Z) (.int .i64 ((T.code.getD ((kk).toNat) AF.zero).b)) AH Z (d8.ldp (i:=2) sM) Ac (Af 3 Z ?_)))))
        refine Au (v:=vr) ((kk).toNat) Bi AX Z Z hR.slL oM sD Ac ?_
        obtain⟨da,ge,db⟩:=RN.getL (w:=w) g1 [] (k:=(kk).toNat) hR sD
        have dv:=db.lenL
        unfold maxLen at dv
        refine Ak (p:=Aw vr ((kk).toNat) 1) (.inl Z) da B6 Z (ge _ (AE.of_ext [] cf.drew)) Ac (Ap 151 [] [] [b9,da] Z Z Qc Ac (Dy _ _ _ _ _ d9.rd1 ((db.ext g1 cf.drew)).rd Ge Ge Gd Gd) ?_)
        rintro e161 w161 ⟨dw,rfl,a1,ah⟩
        refine⟨_,rfl,a1,?_⟩
        replace a1:=a1.of_drew
        have ji:=a1.size
        have gf:=cf.trans a1
        have bt:=gb.ext a1
        have bu:=gc.ext a1
        have bv:=d8.ext a1
        have bw:=d9.ext (o1) a1
        have gg:=ga.ext a1
        have gh:=gd.ext g1 a1
        replace ah:=ah.low (B':=w148.heap.size) (A9 _)
        refine Ap 103 [] [] [dw,(.int .i64 ((1000002:Nat):Int))] Z Z O2 Ac (De _ _ _ _ ah.rd1 oM Ge Gd oM) ?_
        rintro e164 w164 ⟨cg,rfl,a3,bg⟩
        refine⟨_,rfl,a3,?_⟩
        have jj:=a3.size
        have dc:=gf.trans a3
        have bx:=bt.ext a3
        have ar:=bu.ext a3
        have bz:=bv.ext a3
        have c0:=bw.ext (o1) a3
        have b3:=ah.ext (o1) a3
        have bh:=gg.ext a3
        have gi:=gh.ext g1 a3
        refine B1 220 [] [(.pointer (some ⟨w2.heap.size,0,none⟩))] [(.int .i64 ((T.code.getD ((kk).toNat) AF.zero).b)),cg,(.pointer (some ⟨w2.heap.size,0,none⟩))] Z Z K2 Ac (Bk _ ((T.code.getD ((kk).toNat) AF.zero).b) cg (CD (C7 (BR (xs.getD ((kk).toNat) []) (R.getD (((T.code.getD ((kk).toNat) AF.zero).b).toNat) [])) (R.getD ((kk).toNat) [])) ((1000002:Nat):Int)) S w2.heap.size vo (FH xs ((T.code.getD ((kk).toNat) AF.zero).a) (BR (xs.getD ((kk).toNat) []) (R.getD (((T.code.getD ((kk).toNat) AF.zero).b).toNat) []))) _ _ BO av.2.2.1 bg.rd1 (ar.ld (k:=0) sM) bh hSB (fun b hb=>by have:=c1 b hb;omega) oM HA (by exact hrb.2) HB) ?_
        rintro e167 w167 ⟨rfl,a7,gj,gk⟩
        refine⟨_,rfl,?_⟩
        have jk:w164.heap.size≤w167.heap.size:=a7.size
        have gl:Az w w167:=a7.below dc (fun c hc=>Aa hwB (bh.low c hc)) dc.size
        have gm:=bx.chg a7 (fun hm=>by have:=bh.low _ hm;have:=hFl _ hm;omega)
        have gn:=ar.chg a7 (fun hm=>cm hm)
        have kj:=bz.chg a7 (fun hm=>by have:=bh.low _ hm;have:=hFl _ hm;omega)
        have kl:=gi.chg g1 (a7.sub (fun b hb=>List.mem_append_right _ hb))
        have km:=c0.chg (o1) a7 (fun c hc=>by have:=hFl c hc;omega)
        have kn:=b3.chg (o1) a7 (fun c hc=>by have:=hFl c hc;omega)
        have ko:=bg.chg (o1) a7 (fun c hc=>by have:=hFl c hc;omega)
        refine Ah (Ad _ [0,0,0] Z (Af 1 Z (Cy (kk-((1:Nat):Int)) Z Z (FR sD sD) Ac (Ae 1 Z ?_))))
        have hbe:=gk
        exact⟨((kk-1),(FH (FH xs ((T.code.getD ((kk).toNat) AF.zero).a) (BR (xs.getD ((kk).toNat) []) (R.getD (((T.code.getD ((kk).toNat) AF.zero).b).toNat) []))) ((T.code.getD ((kk).toNat) AF.zero).b) (CD (C7 (BR (xs.getD ((kk).toNat) []) (R.getD (((T.code.getD ((kk).toNat) AF.zero).b).toNat) [])) (R.getD ((kk).toNat) [])) ((1000002:Nat):Int))),gj),_,rfl,⟨rfl,rfl,rfl,rfl,trivial⟩,⟨gl,gm,gn,oM,(by exact hbe),KN,KO,KM⟩,by first|omega|(dsimp only;omega)⟩
       ·refine AA false Z Z (A8 d4) Ac (Ae 1 Z (Aj Z (A0 (Ad _ [0,0] Z ?_))))
        by_cases dd:(T.code.getD ((kk).toNat) AF.zero).op=((7:Nat):Int)
        ·refine AA true Z Z (A7 dd) Ac (Ae 1 Z (Ai Z (AY _ [0,0,1,0,3,4] mixed (by kernel_rfl) ?_)))
         have hio:=(hform kk.toNat hkn).i7 oM
         have hra:=hxs (T.code.getD kk.toNat AF.zero).a.toNat oM
         have co:=hra.1
         refine Af 1 Z (Ao (p:=(.pointer (some ⟨w42.drew.heap.size,0,none⟩))) (b:=w42.drew.heap.size) (o:=0) 1 DI Z Z Ac (Ak (p:=(Ay (.pointer (some ⟨w42.drew.heap.size,0,none⟩)) 1)) (.inl Z) (.int .i64 ((T.code.getD ((kk).toNat) AF.zero).a)) AH Z (a6.ldp (i:=1) sM) Ac (Af 1 Z (Ap 103 [] [] [a9,(.int .i64 ((1000002:Nat):Int))] Z Z O2 Ac (De _ _ _ _ an.rd oM Ge Gd oM) ?_))))
         rintro e183 w183 ⟨ch,rfl,a4,ai⟩
         refine⟨_,rfl,a4,?_⟩
         replace a4:=a4.of_drew
         have jl:=a4.size
         have de:=ad.trans a4
         have ci:=bm.ext a4
         have b4:=az.ext a4
         have cj:=a6.ext a4
         have bi:=ae.ext a4
         have go:=an.ext g1 a4
         replace ai:=ai.low (B':=w57.heap.size) (A9 _)
         refine B1 220 [] [(.pointer (some ⟨w2.heap.size,0,none⟩))] [(.int .i64 ((T.code.getD ((kk).toNat) AF.zero).a)),ch,(.pointer (some ⟨w2.heap.size,0,none⟩))] Z Z K2 Ac (Bk _ ((T.code.getD ((kk).toNat) AF.zero).a) ch (CD (xs.getD ((kk).toNat) []) ((1000002:Nat):Int)) S w2.heap.size vo (xs) _ _ BO av.2.1 ai.rd1 (b4.ld (k:=0) sM) bi hSB (fun b hb=>by have:=c1 b hb;omega) oM HA (by exact hra.2) HB) ?_
         rintro e186 w186 ⟨rfl,am,gp,gq⟩
         refine⟨_,rfl,?_⟩
         have jm:w183.heap.size≤w186.heap.size:=am.size
         have gr:Az w w186:=am.below de (fun c hc=>Aa hwB (bi.low c hc)) de.size
         have gs:=ci.chg am (fun hm=>by have:=bi.low _ hm;have:=hFl _ hm;omega)
         have gt:=b4.chg am (fun hm=>cm hm)
         have kp:=cj.chg am (fun hm=>by have:=bi.low _ hm;have:=hFl _ hm;omega)
         have kq:=go.chg g1 (am.sub (fun b hb=>List.mem_append_right _ hb))
         have kr:=ai.chg (o1) am (fun c hc=>by have:=hFl c hc;omega)
         refine Ah (Ad _ [0,0,0] Z (Af 1 Z (Cy (kk-((1:Nat):Int)) Z Z (FR sD sD) Ac (Ae 1 Z ?_))))
         have hbe:=gq
         exact⟨((kk-1),(FH xs ((T.code.getD ((kk).toNat) AF.zero).a) (CD (xs.getD ((kk).toNat) []) ((1000002:Nat):Int))),gp),_,rfl,⟨rfl,rfl,rfl,rfl,trivial⟩,⟨gr,gs,gt,oM,(by exact hbe),KN,KO,KM⟩,by first|omega|(dsimp only;omega)⟩
        ·refine AA false Z Z (A8 dd) Ac (Ae 1 Z (Aj Z (A4 (Ad _ [0,0,0] Z (Af 1 Z ?_)))))
         refine Cy (kk-((1:Nat):Int)) Z Z (FR sD sD) Ac (Ae 1 Z ?_)
         have hbe:=ae
         exact⟨((kk-1),xs,us),_,rfl,⟨rfl,rfl,rfl,rfl,trivial⟩,⟨ad,bm,az,oM,(by exact hbe),KN,KO,KM⟩,by first|omega|(dsimp only;omega)⟩
   ·refine Gq false Z Z (A8 eg) Ac (Ah (Aj Z (A6 (As (As (An (A0 (Ad _ [2,0] Z (Ak (p:=(.pointer (some ⟨w2.heap.size,0,none⟩))) (.inr Z) vo DX Z (a8.ld (k:=0) sM) Ac (Ae 1 Z (A3 ?_)))))))))))
    have hfin:xs=L6 T.code R oT ws:=by have h9:=hadj;rw[show(kk+1).toNat=0 from by omega,gw]at h9;exact h9
    exact Ag [6] Z vo Z ⟨_,rfl,cn,(by rw[← hfin];exact(hbl.done hSB)),hbl.cap⟩
end
section
set_option maxHeartbeats 4000000
set_option maxRecDepth 100000
attribute [local irreducible] LW
theorem DA (w:World)(m:Nat)(ni:Nat)(S:List Nat)(ipT:Int)(vtc vtg vtx:Value)(T:Tp)(oT:List Int)(vl:Value)(L:List (List Int))(b5:∀b∈S,b<w.heap.size)(_hipT:BC ipT)(htcT:RN [] (Dp 4 QI) w.heap vtc T.code)(htgT:RN [] (Dp 2 S7) w.heap vtg T.grd)(htoT:RN [] (B3 rI) w.heap vtx oT)(hL:RN [] (B3 (B3 rI)) w.heap vl L)(hqL:CK vl)(hm:1≤m∧m≤13)(hni:ipT=((ni:Nat):Int)∧ni≤1000)(hsL:Bt m L)(hlL:L.length=T.code.length∧0<L.length)(hlt:T.code.length≤4000)(hform:∀k,k<T.code.length→GL ni k (T.code.getD k AF.zero)) :
  Calls Tryz.prog 181 #[(.agg #[(.int .i64 ipT),vtc,vtg,vtx]),vl] w (fun e w'=>∃v0:Value,e=.returned v0∧Az w w'∧RN S (B3 (B3 rI)) w'.heap v0 (dP ni m T.code L)∧CK v0):=by
 refine At [(.agg #[(.int .i64 ipT),vtc,vtg,vtx]),vl] 54 Tryz.func181 Z Z sM ?_
 have bt:Az w w:=Az.refl w
 have hl_vtx:=htoT.lenL
 unfold maxLen at hl_vtx
 have hl_vl:=hL.lenL
 unfold maxLen at hl_vl
 have bu:=hsL 0 oM
 have c9:=bu.1
 refine A0 (Ad _ [3,0] Z (Bx (cs:=#[(.int .i64 ipT),vtc,vtg,vtx]) Z Ac fun w1 b6 ca b7=>?_))
 have b8:=b6.size
 have b9:=bt.trans b6
 replace b7:BX w1.heap w.heap.size [(.int .i64 ipT),vtc,vtg,vtx]:=b7
 refine Ae 1 Z (A0 (Ad _ [3,0,0] Z (BI (AS rI 2) o1 Bi AX Ac fun v2 w2 b2 cb bv=>?_)))
 have ba:=b2.size
 have bb:=b9.trans b2
 have ai:=b7.ext b2
 refine Ae 2 Z (A0 (A0 (Ad _ [0,0,0] Z (Af 1 Z (AJ (v:=vl) Bi Z hL.slL Ac ?_)))))
 have cc:((0:Nat):Int)<((L.length:Nat):Int):=oM
 refine C6 true Z Z (A7 cc) Ac (Ah (Ai Z (Ad _ [0,0,2,0,0] Z (Af 1 Z (Au (v:=vl) 0 Bi AX Z Z hL.slL Z sD Ac ?_)))))
 obtain⟨bw,cd,bx⟩:=RN.getL (w:=w) g1 [] (k:=0) hL sD
 have ao:=bx.lenL
 unfold maxLen at ao
 refine Ak (p:=Aw vl 0 1) (.inr Z) bw B6 Z (cd _ (AE.of_ext [] bb)) Ac (AJ (v:=bw) Bh Z bx.slL Ac (Ae 1 Z (A0 (A0 (Ad _ [0,2,0] Z (Ao (p:=(.pointer (some ⟨w.heap.size,0,none⟩))) (b:=w.heap.size) (o:=0) 0 Z2 Z Z Ac (Ak (p:=(Ay (.pointer (some ⟨w.heap.size,0,none⟩)) 0)) (.inr Z) (.int .i64 ipT) AH Z (ai.ldp (i:=0) sM) Ac (Ae 1 Z (A5 ?_)))))))))
 refine AN (S:=Nat×Value) (fun⟨k,vo⟩=>([(5,vo),(19,(.int .i64 ((k:Nat):Int))),(1,vl),(2,(.pointer (some ⟨w.heap.size,0,none⟩))),(6,(.int .i64 (((L.getD 0 []).length:Nat):Int))),(18,(.int .i64 ipT))])) (fun⟨k,vo⟩ W=>Az w W∧Fr (AS (AS rI 2) 27) w1.heap.size W.heap.size W.heap vo (List.replicate k (List.replicate m 0))∧BX W.heap w.heap.size [(.int .i64 ipT),vtc,vtg,vtx]∧k≤ni∧w.heap.size<w1.heap.size∧w1.heap.size≤W.heap.size) (fun⟨k,vo⟩=>ni-k) (0,v2) ⟨rfl,rfl,rfl,rfl,rfl,rfl,trivial⟩ ⟨bb,bv.up o2,ai,oM,oM,oM⟩ ?_
 clear bt bu ca b6 bv cb b2 ba bb ao
 rintro⟨k,vo⟩ ρ6 w6 ⟨b3,a4,a2,bz,ce,cf⟩
 have bc:w.heap.size≤w6.heap.size:=b3.size
 have cx:=a2.lt
 refine A0 (Ad _ [0] Z ?_)
 by_cases c0:((k:Nat):Int)<ipT
 ·refine Ax true Z Z (A7 c0) Ac (Ah (A0 (Ai Z (A4 (A0 (A5 (Ad _ [0,0,3,3,4,0] Z (Af 2 Z (EF (n:=(L.getD 0 []).length) Bh BA Z Z Z sD Ac fun v10 w10 ab cg bd=>?_)))))))))
  have c1:=ab.size
  have be:=b3.trans ab
  have a5:=a4.ext (o2) ab
  have a6:=a2.ext ab
  refine Bq (u:=v10) (B:=w6.heap.size) o1 Bi AX Z Z bd (by first|exact A9 _|omega) Ac fun v11 w11 ac ch bf=>?_
  have c2:=ac.size
  have ap:=be.trans ac
  have a7:=a5.ext (o2) ac
  have a8:=a6.ext ac
  refine Ej o1 (v:=vo) (a:=v11) Bi AX Z Z Z a7 oM bf oM oM sD (by unfold maxLen;first|omega|assumption|(simp;done)|(simp;omega)) Ac fun v12 w12 F12 ak aq bg=>?_
  have bh:Az w w12:=ak.below ap (fun c hc=>Aa b9.size (aq c hc).1) ap.size
  have c3:w11.heap.size≤w12.heap.size:=ak.size
  have bi:=a8.chg ak (fun hm=>by have:=aq _ hm;omega)
  exact Ae 1 Z (Ad _ [0,0] Z (AI ((k+1:Nat):Int) Z Z (B8 oM oM) Ac (Ae 1 Z ⟨((k+1),v12),_,rfl,⟨rfl,rfl,rfl,rfl,rfl,rfl,trivial⟩,⟨bh,(by have h:=bg.up o2;rw[c9,← List.replicate_succ']at h;exact h),bi,oM,oM,oM⟩,by first|omega|(dsimp only;omega)⟩)))
 ·refine Ax false Z Z (A8 c0) Ac (Ah (A0 (Aj Z (A6 (As (As (An (A0 (A0 (Ad _ [0,2,0,0] Z ?_))))))))))
  have hOw:=a4
  rw[show k=ni from by omega]at hOw
  obtain⟨ci,F0,bj,cj⟩:=Ii.ofFr (S:=S) hOw (fun b hb=>by have:=b5 b hb;omega)
  obtain⟨BO,hBO⟩:∃b:Nat,b=w1.heap.size:=⟨_,rfl⟩
  rw[← hBO]at bj
  have hwB:w.heap.size≤BO:=by omega
  have hSB:∀b∈S,b<BO:=fun b hb=>by have:=b5 b hb;omega
  obtain⟨B0,b4⟩:∃l:List Sr,l=(List.replicate ni (List.replicate m 0)):=⟨_,rfl⟩
  rw[← b4]at bj
  have ck:Bt m B0:=by rw[b4];exact JX m ni
  have bk:B0.length=ni:=by rw[b4,List.length_replicate]
  refine Ao (p:=(.pointer (some ⟨w.heap.size,0,none⟩))) (b:=w.heap.size) (o:=0) 1 Gx Z Z Ac (Ak (p:=(Ay (.pointer (some ⟨w.heap.size,0,none⟩)) 1)) (.inr Z) vtc Mx Z (a2.ldp (i:=1) sM) Ac (AJ (v:=vtc) My Z htcT.isSl Ac (Ae 1 Z (A5 (AN (S:=Nat×List Value) (fun⟨j,us⟩=>([(30,(.int .i64 ((j:Nat):Int))),(1,vl),(5,vo),(28,vtc),(29,(.int .i64 ((T.code.length:Nat):Int)))])) (fun⟨j,us⟩ W=>Az w W∧j≤T.code.length∧Ii 27 S BO W.heap vo (Tv T.code L j B0) us F0) (fun⟨j,us⟩=>T.code.length-j) (0,ci) ⟨rfl,rfl,rfl,rfl,rfl,trivial⟩ ⟨b3,oM,(by exact bj)⟩ ?_)))))
  clear b8 b9 a2 a4 b3 bc cj
  rintro⟨j,us⟩ ρ14 w14 ⟨ad,bl,hbl⟩
  have c4:w.heap.size≤w14.heap.size:=ad.size
  have hFl:∀b∈F0,b<w14.heap.size:=hbl.lt
  refine A0 (Ad _ [0] Z ?_)
  by_cases ar:((j:Nat):Int)<((T.code.length:Nat):Int)
  ·refine Ax true Z Z (A7 ar) Ac (Ah (A0 (Ai Z (A4 (A0 (A5 (A0 (Ad _ [0,0,2,3,0,4] Z ?_))))))))
   have hjk:j<T.code.length:=by omega
   refine Af 1 Z (Au (v:=vtc) j My I4 Z Z htcT.isSl Z sD Ac ?_)
   obtain⟨cs16,bm,bn⟩:=htcT.get AO AF.zero (k:=j) sD
   obtain⟨rfl,cl⟩:=QP bm
   refine AR (p:=Aw vtc j 4) (.inr Z) [(.int .i64 ((T.code.getD j AF.zero).op)),(.int .i64 ((T.code.getD j AF.zero).a)),(.int .i64 ((T.code.getD j AF.zero).b)),(.int .i64 ((T.code.getD j AF.zero).num))] Ft Z (fun wq9 cm=>bn wq9 (AE.of_ext [] (ad.trans cm))) Z Ac (BJ (z:=.agg #[.int .i64 0,.int .i64 0,.int .i64 0,.int .i64 0]) SR Ac fun w17 a9 cn al=>?_)
   have c5:=a9.size
   have au:=ad.trans a9
   have co:=hbl.ext a9
   replace al:BX w17.heap w14.heap.size [(.int .i64 0),(.int .i64 0),(.int .i64 0),(.int .i64 0)]:=al
   refine Af 1 Z (CT (vs:=[(.int .i64 ((T.code.getD j AF.zero).op)),(.int .i64 ((T.code.getD j AF.zero).a)),(.int .i64 ((T.code.getD j AF.zero).b)),(.int .i64 ((T.code.getD j AF.zero).num))]) Ft Z Z (by intro u hu;simp only[List.mem_cons,List.not_mem_nil,or_false]at hu;rcases hu with rfl|rfl|rfl|rfl <;> first|exact⟨rfl,rfl⟩) al Z Z Ac fun w19 am cp a3=>?_)
   replace a3:BX w19.heap w14.heap.size [(.int .i64 ((T.code.getD j AF.zero).op)),(.int .i64 ((T.code.getD j AF.zero).a)),(.int .i64 ((T.code.getD j AF.zero).b)),(.int .i64 ((T.code.getD j AF.zero).num))]:=a3
   have ae:Az w w19:=am.below au (fun c hc=>by have:=Ab hc;omega) au.size
   have c6:w17.heap.size≤w19.heap.size:=am.size
   have af:=hbl.ext (am.below a9 (fun c hc=>by have:=Ab hc;omega) a9.size)
   refine Ah (A0 (Ad _ [0,2,0] Z (Ao (p:=(.pointer (some ⟨w14.heap.size,0,none⟩))) (b:=w14.heap.size) (o:=0) 0 LE Z Z Ac (Ak (p:=(Ay (.pointer (some ⟨w14.heap.size,0,none⟩)) 0)) (.inr Z) (.int .i64 ((T.code.getD j AF.zero).op)) AH Z (a3.ldp (i:=0) sM) Ac ?_))))
   by_cases av:(T.code.getD j AF.zero).op=((1:Nat):Int)
   ·refine AA true Z Z (A7 av) Ac (Ah (Ai Z (AY _ [0,0,1,0,0,1,0,1,0,0,0,1,3,0,4] mixed (by kernel_rfl) ?_)))
    have hio:=(hform j hjk).i1 oM
    have hra:=Ly (cs:=T.code) (L:=L) (B:=B0) (fun q hq=>by rw[bk];exact hform q hq) ck j oM (T.code.getD j AF.zero).num.toNat (by rw[Is,bk];omega)
    have cq:=hra.1
    have hLj:=hsL j oM
    have cr:=hLj.1
    have hbn:(Tv T.code L j B0).length=ni:=by rw[Is,bk]
    refine Af 1 Z (Ao (p:=(.pointer (some ⟨w14.heap.size,0,none⟩))) (b:=w14.heap.size) (o:=0) 3 LF Z Z Ac (Ak (p:=(Ay (.pointer (some ⟨w14.heap.size,0,none⟩)) 3)) (.inl Z) (.int .i64 ((T.code.getD j AF.zero).num)) AH Z (a3.ldp (i:=3) sM) Ac (Af 1 Z (Ao (p:=(.pointer (some ⟨w14.heap.size,0,none⟩))) (b:=w14.heap.size) (o:=0) 3 LF Z Z Ac (Ak (p:=(Ay (.pointer (some ⟨w14.heap.size,0,none⟩)) 3)) (.inl Z) (.int .i64 ((T.code.getD j AF.zero).num)) AH Z (a3.ldp (i:=3) sM) Ac ?_)))))
    refine Au (v:=vo) (((T.code.getD j AF.zero).num).toNat) Bi AX Z Z (af.done hSB).none.slL oM sD Ac ?_
    obtain⟨aw,bo,an⟩:=af.getF (k:=((T.code.getD j AF.zero).num).toNat) sD
    have ax:=an.lenL
    unfold maxLen at ax
    refine Ak (p:=Aw vo (((T.code.getD j AF.zero).num).toNat) 1) (.inl Z) aw B6 Z bo Ac (Af 2 Z (Au (v:=vl) j Bi AX Z Z hL.slL Z sD Ac ?_))
    obtain⟨ay,bp,az⟩:=RN.getL (w:=w) g1 [] (k:=j) hL sD
    have b0:=az.lenL
    unfold maxLen at b0
    refine Ak (p:=Aw vl j 1) (.inl Z) ay B6 Z (bp _ (AE.of_ext [] ae.drew)) Ac (Ap 102 [] [] [aw,ay] Z Z Qa Ac (Et _ _ _ _ _ an.rd ((az.ext g1 ae.drew)).rd oM oM (by exact hra.2) (by exact hLj.2)) ?_)
    rintro e24 w24 ⟨aj,rfl,a1,a0⟩
    refine⟨_,rfl,a1,?_⟩
    replace a1:=a1.of_drew
    have c7:=a1.size
    have b1:=ae.trans a1
    have ag:=a3.ext a1
    have ah:=af.ext a1
    have bq:=an.ext g1 a1
    replace a0:=a0.low (B':=w19.heap.size) (A9 _)
    refine Au (v:=vo) (((T.code.getD j AF.zero).num).toNat) Bi AX Z Z (ah.done hSB).none.slL oM sD Ac ?_
    refine VD (v:=vo) (u:=aj) (w:=w24) Ja Z Z ah (RN.of_fr1 a0 (fun b hb=>by rcases List.mem_append.1 hb with hb|hb;(have:=b5 b hb;omega);(have:=hFl b hb;omega))) sD Ac fun w27 aa ct br=>?_
    have c8:w24.heap.size≤w27.heap.size:=aa.size
    have bs:Az w w27:=aa.below b1 (fun c hc=>Aa hwB (ah.low c hc)) b1.size
    have cu:=ag.chg aa (fun hm=>by have:=ah.low _ hm;have:=hFl _ hm;omega)
    have cv:=bq.chg g1 (aa.sub (fun b hb=>List.mem_append_right _ hb))
    have cw:=a0.chg (o1) aa (fun c hc=>by have:=hFl c hc;omega)
    refine Ah (Ad _ [0,0] Z (AI ((j+1:Nat):Int) Z Z (B8 oM sD) Ac (Ae 1 Z ?_)))
    have hbe:=br
    exact⟨((j+1),(us.set (((T.code.getD j AF.zero).num).toNat) aj)),_,rfl,⟨rfl,rfl,rfl,rfl,rfl,trivial⟩,⟨bs,oM,(by first|(rw[Mq oM];exact hbe)|(rw[Mr oM];exact hbe))⟩,by first|omega|(dsimp only;omega)⟩
   ·refine AA false Z Z (A8 av) Ac (Ah (Aj Z (A4 (Ad _ [0,0] Z (AI ((j+1:Nat):Int) Z Z (B8 oM sD) Ac (Ae 1 Z ?_))))))
    have hbe:=af
    exact⟨((j+1),us),_,rfl,⟨rfl,rfl,rfl,rfl,rfl,trivial⟩,⟨ae,oM,(by first|(rw[Mq oM];exact hbe)|(rw[Mr oM];exact hbe))⟩,by first|omega|(dsimp only;omega)⟩
  ·exact Ax false Z Z (A8 ar) Ac (Ah (A0 (Aj Z (A6 (As (As (An (A0 (Ad _ [0,0] Z (Ae 2 Z (A3 (Ag [4] Z vo Z ⟨_,rfl,ad,(by have h9:=(hbl.done hSB);rw[show j=T.code.length from by omega,b4]at h9;exact h9),hbl.cap⟩))))))))))))
end
section
set_option maxHeartbeats 4000000
set_option maxRecDepth 100000
attribute [local irreducible] LW
theorem K6 (w:World)(o:Int)(_ho:BC o)(ho:0≤o∧o≤12) :
  Calls Tryz.prog 131 #[.int .i64 o] w (fun e w'=>∃v0:Value,e=.returned (v0)∧Az w w'∧Fr (AS rI 2) w.heap.size w'.heap.size w'.heap v0 ((List.replicate (o.toNat+1) 0).set 1 1)):=by
 refine At [.int .i64 o] 12 Tryz.func131 Z Z sM ?_
 have a6:Az w w:=Az.refl w
 refine A0 (Ad _ [0] Z (Ae 1 Z (A0 (Ad _ [0,0,3,0] Z (Af 1 Z (AI ((o.toNat+1:Nat):Int) Z Z (B8 oM oM) Ac (EF (n:=o.toNat+1) Bh BA Z Z Z sD Ac fun v1 w1 a2 ab a0=>?_)))))))
 have a7:=a2.size
 have a1:=a6.trans a2
 refine Ae 1 Z (A0 (A0 (Ad _ [0,0] Z (Af 1 Z ?_))))
 by_cases a3:((0:Nat):Int)<o
 ·refine C6 true Z Z (A7 a3) Ac (Ah (Ai Z (Ad _ [0,0,4] Z (Af 1 Z (Au (v:=v1) 1 Bh BA Z Z a0.isSl Z (by simp;omega) Ac (Fk (v:=v1) (w:=w1) ID Z Z oM a0 (by simp;omega) Ac fun w3 F3 a4 ac a8 a5=>?_))))))
  have a9:Az w w3:=a4.below a1 (fun c hc=>Aa (A9 _) (a8 c hc).1) a1.size
  have aa:w1.heap.size≤w3.heap.size:=a4.size
  exact Ah (A0 (Ad _ [0,0] Z (Ae 2 Z (A3 (Ag [2] Z v1 Z ⟨v1,rfl,a9,(by first|exact a5.up o1|(have h:=a5.up o1;rw[show o.toNat=0 from by omega]at h ⊢;exact h))⟩)))))
 ·exact C6 false Z Z (A8 a3) Ac (Ah (Aj Z (A4 (A0 (Ad _ [0,0] Z (Ae 2 Z (A3 (Ag [2] Z v1 Z ⟨v1,rfl,a1,(by first|exact a0.up o1|(have h:=a0.up o1;rw[show o.toNat=0 from by omega]at h ⊢;exact h))⟩))))))))
theorem Da (w:World)(vl:Value)(L:List (List Int))(vp:Value)(ps:List Int)(hL:RN [] (B3 (B3 rI)) w.heap vl L)(hqL:CK vl)(hps:Rd (B3 rI) w.heap vp ps)(hp:∀k,k<ps.length→0≤ps.getD k 0∧ps.getD k 0<((L.length:Nat):Int))(hpl:ps.length≤1000000) :
  Calls Tryz.prog 183 #[vl,vp] w (fun e w'=>∃v0:Value,e=.returned v0∧Az w w'∧RN [] (B3 (B3 rI)) w'.heap v0 (dQ L ps)∧CK v0):=by
 refine At [vl,vp] 24 Tryz.func183 Z Z sM ?_
 have ab:Az w w:=Az.refl w
 have hl_vl:=hL.lenL
 unfold maxLen at hl_vl
 have hl_vp:=hps.lenle
 have hS:∀b∈([]:List Nat),b<w.heap.size:=fun b hb=>by cases hb
 refine A0 (Ad _ [0] Z (Ae 1 Z (A0 (Ad _ [3,0] Z ?_))))
 obtain⟨BO,hBO⟩:∃b:Nat,b=w.heap.size:=⟨_,rfl⟩
 have hwB:w.heap.size≤BO:=by omega
 refine BI rV Bd Bi AX Ac fun v1 w1 a2 ai a3=>?_
 have a4:=a2.size
 have ac:=ab.trans a2
 obtain⟨aq,F1,ar⟩:=Ii.nil (S:=[]) (by rw[← hBO]at a3;exact a3)
 refine Ae 1 Z (A0 (A0 (Ad _ [0,0,0] Z (Af 1 Z (AJ (v:=vp) Bh Z hps.isSl Ac (Ae 1 Z (A5 (AN (S:=Nat×Value) (fun⟨k,vo⟩=>([(5,vo),(11,(.int .i64 ((k:Nat):Int))),(0,vl),(9,vp),(10,(.int .i64 ((ps.length:Nat):Int)))])) (fun⟨k,vo⟩ W=>Az w W∧k≤ps.length∧w.heap.size≤BO∧BO≤W.heap.size∧Qr 27 [] BO W.heap vo (dQ L (ps.take k))) (fun⟨k,vo⟩=>ps.length-k) (0,v1) ⟨rfl,rfl,rfl,rfl,rfl,trivial⟩ ⟨ac,oM,oM,oM,(by exact⟨_,_,by assumption⟩)⟩ ?_))))))))
 clear ab a3 ai a2 a4 ac
 rintro⟨k,vo⟩ ρ2 w2 ⟨a1,ad,ae,af,hbld⟩
 have aj:w.heap.size≤w2.heap.size:=a1.size
 have hpkl:(dQ L (ps.take k)).length=k:=by unfold dQ;rw[List.length_map,List.length_take];omega
 obtain⟨au,F3,a0⟩:=hbld
 have hFl:∀b∈F3,b<w2.heap.size:=a0.lt
 refine A0 (Ad _ [0] Z ?_)
 by_cases ag:((k:Nat):Int)<((ps.length:Nat):Int)
 ·refine Ax true Z Z (A7 ag) Ac (Ah (A0 (Ai Z (A4 (A0 (A5 (A0 (Ad _ [0,2,0] Z (Au (v:=vp) k Bh BA Z Z hps.isSl Z sD Ac ?_)))))))))
  refine Ak (p:=Aw vp k 1) (.inr Z) (.int .i64 (ps.getD k 0)) AH Z (AP a1 (hps.getI sD).1) Ac (Ae 1 Z (Ad _ [0,0,0,0,2,3,4,0] Z ?_))
  have hpk:=hp k oM
  refine Af 3 Z (Au (v:=vl) ((ps.getD k 0).toNat) Bi AX Z Z hL.slL oM sD Ac ?_)
  obtain⟨a5,ak,a6⟩:=RN.getL (w:=w) g1 [] (k:=(ps.getD k 0).toNat) hL sD
  have a7:=a6.lenL
  unfold maxLen at a7
  refine Ak (p:=Aw vl ((ps.getD k 0).toNat) 1) (.inr Z) a5 B6 Z (ak _ (AE.of_ext [] a1)) Ac (Bq (u:=a5) (B:=w2.heap.size) Bd Bi AX Z Z (Nz w2.heap.size w2.heap.size _ (a6.one1 g1)) (A9 _) Ac fun v6 w6 a8 av al=>?_)
  have am:=a8.size
  have a9:=a1.trans a8
  have aa:=a0.ext a8
  refine Fl (v:=vo) (a:=v6) (u:=a5) Bi AX Z Z Z aa oM al (RN.stp g1 a6 (AE.of_ext [] a9) (fun b hb=>.inr (by have:=aa.low b (by simpa using hb);omega))) sD (by unfold maxLen;first|omega|assumption|(simp;done)|(simp;omega)) Ac ?_
  rintro v8 w8 G8 ah an ⟨aw,F8,ax⟩
  have ao:w6.heap.size≤w8.heap.size:=ah.size
  have ap:Az w w8:=ah.below a9 (fun c hc=>Aa hwB (aa.low c (an c hc))) a9.size
  exact Ae 1 Z (Ad _ [0,0] Z (AI ((k+1:Nat):Int) Z Z (B8 oM sD) Ac (Ae 1 Z ⟨((k+1),v8),_,rfl,⟨rfl,rfl,rfl,rfl,rfl,trivial⟩,⟨ap,oM,oM,oM,(by rw[VF oM];exact⟨_,_,by assumption⟩)⟩,by first|omega|(dsimp only;omega)⟩)))
 ·exact Ax false Z Z (A8 ag) Ac (Ah (A0 (Aj Z (A6 (As (As (An (A0 (Ad _ [0,0] Z (Ae 2 Z (A3 (Ag [4] Z vo Z ⟨_,rfl,a1,(by have h9:=(a0.done (fun b hb=>absurd hb List.not_mem_nil));rw[List.take_of_length_le oM]at h9;exact h9),a0.cap⟩))))))))))))
end
section
set_option maxHeartbeats 4000000
set_option maxRecDepth 100000
attribute [local irreducible] LW
theorem Rb {p:Prop}(h:p:=by unfold maxLen;first|omega|assumption|(simp only[List.length_nil,List.length_cons,List.length_append,List.length_set,List.length_replicate];omega)|(simp[List.length_nil,List.length_cons,List.length_append,List.length_set,List.length_replicate];done)|(simp[List.length_nil,List.length_cons,List.length_append,List.length_set,List.length_replicate];omega)):p:=h
theorem Rc {p:Prop}(h:p:=by rw[VG];exact⟨_,_,by assumption⟩):p:=h
theorem Re {p:Prop}(h:p:=by intro q hq;rw[BE];exact hOu q hq):p:=h
theorem Rf {p:Prop}(h:p:=by show(0:Int)≤0∧(0:Int)≤9;omega):p:=h
theorem KP {p:Prop}(h:p:=by rw[Cp];exact hl):p:=h
theorem HC {p:Prop}(h:p:=by exact hTI.form):p:=h
theorem Cx {p:Prop}(h:p:=by assumption):p:=h
theorem EC (w:World)(dp:Nat)(vp:Value)(p:List Fn)(f:Int)(m:Nat)(vA:Value)(A:List (List Int))(hp:RP [] dp w.heap vp p)(_hf:BC f)(hA:RN [] (B3 (B3 rI)) w.heap vA A)(hqA:CK vA)(hok:Ln p=true)(hz:Tq p)(hf:0≤f∧f<((p.length:Nat):Int))(hl:((A.length:Nat):Int)=(p.getD f.toNat Fn.zero).params)(hm:1≤m∧m≤13)(hsA:Bt m A)(ly:0<A.length) :
  Calls Tryz.prog 128 #[(.agg #[vp]),.int .i64 f,vA] w (fun e w'=>∃(v0 v1:Value) (c:Int),e=.returned (.tuple #[v0,v1,.int .i64 c])∧Az w w'∧c=HF p m f.toNat A∧(0≤c∧c≤9)∧(c=0→RN [] (B3 (B3 rI)) w'.heap v0 (Dr p m f.toNat A)∧CK v0∧∃T xs s1,AT (Na p f.toNat (BZ A)) (xs,T) s1 0∧xs.length=(p.getD f.toNat Fn.zero).outs.length∧RN [] (B3 (KC (B3 rI))) w'.heap v1 (IB m T xs A xs.length)∧CK v1)):=by
 refine At [(.agg #[vp]),.int .i64 f,vA] 63 Tryz.func128 Z Z sM ?_
 have lz:Az w w:=Az.refl w
 have hl_vp:=hp.lenle
 unfold maxLen at hl_vp
 have hl_vA:=hA.lenL
 unfold maxLen at hl_vA
 have r1:=(hsA 0 ly).1
 have hvp:=Or hok
 have hpr:=hvp.par f.toNat oM
 have hou:=hvp.outs f.toNat oM
 have ii:∀k,k<A.length→0<(A.getD k []).length:=fun k hk=>by have:=(hsA k hk).1;omega
 have hfn:A.map (fun s=>s.getD 0 0)=BZ A:=rfl
 refine A0 (Ad _ [3,0,0,0] Z (Bx (cs:=#[vp]) Z Ac fun w1 ij m8 ic=>?_))
 have g8:=ij.size
 have id:=lz.trans ij
 replace ic:BX w1.heap w.heap.size [vp]:=ic
 refine Ae 3 Z (A0 ?_)
 letI:JR:=f9 []
 refine Jx.fg _ [1,0,0,3,3,0,0,0,3,4,0] [0,1,2] 3 4 [5,6,7,8,9,10] 8 [4,5,6,7,9,10] 8 [3,4,5,6,7,9,10] [_,_,_] [1,0,0] _ _ [_,_,_,_,_,_] [0,0,0,3,4,0] _ [_,_,_,_,_,_] [3,0,0,0,4,0] _ [_,_,_,_,_,_,_] [3,3,0,0,0,4,0] mixed (by kernel_rfl) ⟨rfl,rfl,⟨rfl,rfl,⟨rfl,rfl,trivial⟩⟩⟩ ⟨rfl,rfl,trivial⟩ ⟨rfl,rfl,⟨rfl,rfl,⟨rfl,rfl,⟨rfl,rfl,⟨rfl,rfl,⟨rfl,rfl,⟨rfl,rfl,trivial⟩⟩⟩⟩⟩⟩⟩ ⟨rfl,rfl,⟨rfl,rfl,⟨rfl,rfl,⟨rfl,rfl,⟨rfl,rfl,⟨rfl,rfl,⟨rfl,rfl,trivial⟩⟩⟩⟩⟩⟩⟩ ⟨rfl,rfl,⟨rfl,rfl,⟨rfl,rfl,⟨rfl,rfl,⟨rfl,rfl,⟨rfl,rfl,⟨rfl,rfl,⟨rfl,rfl,trivial⟩⟩⟩⟩⟩⟩⟩⟩ (Jx.fa (p:=(.pointer (some ⟨w.heap.size,0,none⟩))) [vp] EB Z (fun wj hj=>LD.of_box (BX.ext (w:=w1.drew) ic (AE.ext0 hj))) Z Ac (Jx.bF (.int .i64 f) Z Ac ?_))
 refine Jx.bF vA Z Ac (Jx.Ah ⟨?_,?_⟩)
 ·refine Jx.Yg Z (Ap 99 [] [] [vA] Z Z eJ Ac (GH _ _ _ ((hA.ext g2 id.drew)).rd oM (by exact ii)) ?_)
  rintro e2 w2 ⟨ds,rfl,e4,an⟩
  refine⟨_,rfl,e4,?_⟩
  replace e4:=e4.of_drew
  have ik:=e4.size
  have il:=id.trans e4
  have cx:=ic.ext e4
  replace an:=an.low (B':=w1.heap.size) (A9 _)
  refine Ah ⟨?_,?_⟩
  ·refine Jx.Yg Z (Ap 179 [] [] [(.agg #[vp]),(.int .i64 f),ds] Z Z X7 Ac (GI _ dp vp (p) (f) ds (A.map (fun s=>s.getD 0 0)) (hp.ext (Am (AB dp)) il) _hf (RN.of_fr1 an (fun b hb=>absurd hb List.not_mem_nil)) (by exact hok) (by exact hz) oM (by rw[List.length_map];exact hl) (by exact Ep hsA)) ?_)
   rintro e3 w3 ⟨i3,va3,vb3,vc3,xs3,T3,s3,c3,rfl,ie,g9,q9,m9,ga,ma⟩
   refine⟨_,rfl,ie,?_⟩
   have mb:=ie.size
   have od:=il.trans ie
   have e5:=cx.ext ie
   have ca:=an.ext (o1) ie
   have qa:HF p m f.toNat A=c3:=JU hm.1 hvp oM (Ep hsA) (EJ hsA) KP g9
   have mc:=Az.refl w3
   refine Af 1 Z (B2 (vs:=[(.agg #[(.int .i64 i3),va3,vb3,vc3]),(.int .i64 c3)]) (.agg #[(.int .i64 i3),va3,vb3,vc3]) Z Z Ac (B2 (vs:=[(.agg #[(.int .i64 i3),va3,vb3,vc3]),(.int .i64 c3)]) (.int .i64 c3) Z Z Ac ?_))
   have r2:=e5.lt
   refine BJ (z:=.agg #[.int .i64 0,.slice none 0 0,.slice none 0 0,.slice none 0 0]) SN Ac fun w4 ig qb md=>?_
   have me:=ig.size
   have mf:=od.trans ig
   have qc:=mc.trans ig
   have im:=e5.ext ig
   have cb:=ca.ext (o1) ig
   replace md:BX w4.heap w3.heap.size [(.int .i64 0),(.slice none 0 0),(.slice none 0 0),(.slice none 0 0)]:=md
   refine CT (vs:=[(.int .i64 i3),va3,vb3,vc3]) Dx Z Z (fun u hu=>by rcases List.mem_cons.1 hu with rfl|hu;exact⟨rfl,rfl⟩;exact m9 u hu) md Z Z Ac fun w6 ih qd m0=>?_
   replace m0:BX w6.heap w3.heap.size [(.int .i64 i3),va3,vb3,vc3]:=m0
   have m1:Az w w6:=ih.below mf (fun c hc=>by have:=Ab hc;omega) mf.size
   have mg:w4.heap.size≤w6.heap.size:=ih.size
   have oe:=im.chg ih (fun hm=>by have:=Ab hm;omega)
   have og:=cb.chg (o1) ih (fun c hc=>by have:=Ab hc;omega)
   have gb:AE [w3.heap.size] w3 w6:=(AE.of_ext _ qc).trans ih
   refine Ae 1 Z (A0 (A0 (Ad _ [0,0] Z (Af 1 Z ?_))))
   by_cases oh:c3≠((0:Nat):Int)
   ·exact AZ true Z Z (A7 oh) Ac (Ah (Ai Z (A0 (Ad _ [0,0,0,0] Z (Ae 4 Z (A3 (Aq (Ag [6,7,8] Z (.tuple #[(.slice none 0 0),(.slice none 0 0),(.int .i64 c3)]) Z ⟨_,_,_,rfl,m1,oM,oM,(fun h9=>absurd h9 oM)⟩))))))))
   ·refine AZ false Z Z (A8 oh) Ac (Ah (Aj Z (A4 (A0 (AY _ [1,0,0,3,3,0,0,0,0,0] mixed (by kernel_rfl) ?_)))))
    have ao:c3=0:=by omega
    obtain⟨oi,hTB,oj,hxl,hEn,io,ip,iq⟩:=ma ao
    obtain⟨hTI,hEv⟩:=JV hm.1 hvp oM (Ep hsA) (EJ hsA) KP g9 ao
    have hnz:=hTI.nz
    have hcl:=hTI.cl
    have bj:=g9
    rw[ao]at bj
    have hTl:T3.code.length≤4000:=by have:=hTB.2.1;omega
    have cy:RT w6.heap.size (Dp 4 QI) w6.heap va3 T3.code:=RN.rt (Am AO) (RN.chg (Am AO) (RG.rnG (g:=w3.heap.size) (Am AO) io oM) gb)
    have cz:RT w6.heap.size (Dp 2 S7) w6.heap vb3 T3.grd:=RN.rt (Am AW) (RN.chg (Am AW) (RG.rnG (g:=w3.heap.size) (Am AW) ip oM) gb)
    have d0:RT w6.heap.size (B3 rI) w6.heap vc3 xs3:=RN.rt g1 (RN.chg g1 (RG.rnG (g:=w3.heap.size) g1 iq oM) gb)
    have hoo:=QQ hm.1 ly hsA
    have hom:((Qh A:Nat):Int).toNat+1=m:=by omega
    have hSR:=hTI.regs
    have ok:0<T3.code.length:=by have:=hTI.outs hEn 0 oM;omega
    have hOu:=hTI.outs hEn
    have hAd:=fun ws=>hTI.adj (ws:=ws) hEn
    refine AR (p:=(.pointer (some ⟨w3.heap.size,0,none⟩))) (.inl Z) [(.int .i64 i3),va3,vb3,vc3] Dx Z (fun wq9 bk=>LD.of_box (BX.ext (w:=w6.drew) m0 bk)) Z Ac (Af 2 Z (Ap 87 [] [] [vA] Z Z eH Ac (Gc _ vA (A) (hA.ext g2 m1.drew) hqA (by exact fun h=>ii 0 h)) ?_))
    rintro e10 w10 ⟨rfl,al⟩
    refine⟨_,rfl,al,?_⟩
    replace al:=al.of_drew
    have ir:=al.size
    have gc:=m1.trans al
    have d1:=oe.ext al
    have d2:=og.ext (o1) al
    have gd:=m0.ext al
    have is:=cy.ext (Am AO) al
    have it:=cz.ext (Am AW) al
    have iu:=d0.ext g1 al
    refine Ap 180 [] [] [(.agg #[(.int .i64 i3),va3,vb3,vc3]),vA,(.int .i64 ((Qh A:Nat):Int))] Z Z X8 Ac (Di _ (i3) va3 vb3 vc3 (T3) (xs3) vA (A) (((Qh A:Nat):Int)) ga is.rn it.rn iu.rn (hA.ext g2 gc) hqA (by unfold Qh;omega) oM (by rw[hom];exact hsA) HC (by exact hTl)) ?_
    rintro e14 w14 ⟨v14,c14,rfl,ax,e6,iv⟩
    refine⟨_,rfl,ax,?_⟩
    have iw:=ax.size
    have ix:=gc.trans ax
    have c0:=d1.ext ax
    have d3:=d2.ext (o1) ax
    have d4:=gd.ext ax
    have mh:=is.ext (Am AO) ax
    have mi:=it.ext (Am AW) ax
    have mj:=iu.ext g1 ax
    have ol:c14=0∨c14=6:=by unfold YE at e6;omega
    have hcz:c14=0:=by rcases e6 with h9|h9;exact h9.1;(have h8:=h9.2;rw[hom]at h8;exact absurd hnz h8)
    obtain⟨bl,hrvc⟩:=iv hcz
    rw[hom]at bl
    have hrvt:=bl.rt g2
    refine Af 1 Z (B2 (vs:=[v14,(.int .i64 c14)]) v14 Z Z Ac (B2 (vs:=[v14,(.int .i64 c14)]) (.int .i64 c14) Z Z Ac (Ae 2 Z (A0 (A0 (Ad _ [0,0] Z (Af 1 Z ?_)))))))
    by_cases iy:c14≠((0:Nat):Int)
    ·exact absurd iy oM
    ·refine AZ false Z Z (A8 iy) Ac (Ah (Aj Z (A4 (A0 (Ad _ [3,0] Z ?_)))))
     obtain⟨BG,hBG⟩:∃b:Nat,b=w14.heap.size:=⟨_,rfl⟩
     have hwG:w.heap.size≤BG:=by omega
     have om:w14.heap.size≤BG:=by omega
     have on:w6.heap.size≤BG:=by omega
     have qe:w.heap.size<BG:=by have:=BX.lt c0;omega
     have qf:w3.heap.size<BG:=by have:=BX.lt d4;omega
     refine BI rV Bd DN Ef Ac fun v19 w19 ay mk ge=>?_
     have iz:=ay.size
     have j0:=ix.trans ay
     have gf:=c0.ext ay
     have gg:=d3.ext (o1) ay
     have d5:=d4.ext ay
     have qg:=mh.ext (Am AO) ay
     have qh:=mi.ext (Am AW) ay
     have ml:=mj.ext g1 ay
     have qi:=hrvt.ext g2 ay
     obtain⟨qj,F19,qk⟩:=Hw.nil (E:=KC (B3 rI)) (S:=[]) (by rw[← hBG]at ge;exact ge)
     refine Ae 1 Z (A0 (A0 (Ad _ [0,2,0,0] Z (Ao (p:=(.pointer (some ⟨w3.heap.size,0,none⟩))) (b:=w3.heap.size) (o:=0) 3 Eq Z Z Ac (Ak (p:=(Ay (.pointer (some ⟨w3.heap.size,0,none⟩)) 3)) (.inr Z) vc3 B6 Z (d5.ldp (i:=3) sM) Ac (AJ (v:=vc3) Bh Z ml.slL Ac (Ae 1 Z (A5 ?_))))))))
     refine AN (S:=Nat×Value) (fun⟨k,vo⟩=>([(12,vo),(40,(.int .i64 ((k:Nat):Int))),(9,(.pointer (some ⟨w3.heap.size,0,none⟩))),(11,v14),(39,(.int .i64 ((xs3.length:Nat):Int)))])) (fun⟨k,vo⟩ W=>Az w W∧BX W.heap w3.heap.size [(.int .i64 i3),va3,vb3,vc3]∧k≤xs3.length∧w.heap.size≤BG∧BG≤W.heap.size∧(∃us F,Hw (KC (B3 rI)) 32 [] BG W.heap vo (IB m T3 xs3 A k) us F)∧RT w6.heap.size (Dp 4 QI) W.heap va3 T3.code∧RT w6.heap.size (Dp 2 S7) W.heap vb3 T3.grd∧RT w6.heap.size (B3 rI) W.heap vc3 xs3∧w6.heap.size≤W.heap.size∧RT w14.heap.size (B3 (B3 rI)) W.heap v14 (Bb m A T3.code)∧w14.heap.size≤W.heap.size) (fun⟨k,vo⟩=>xs3.length-k) (0,v19) ⟨rfl,rfl,rfl,rfl,rfl,trivial⟩ ⟨j0,d5,oM,oM,oM,(by exact⟨_,_,by assumption⟩),Cx,Cx,Cx,oM,Cx,oM⟩ ?_
     clear lz m8 ij g8 id an e4 ik il ie mb od ca qb ig me mf cb qd ih m1 mg oe og al ir gc d1 d2 ax iw ix c0 d3 ge mk ay iz j0 gf gg
     rintro⟨k,vo⟩ ρ30 w30 ⟨gh,ag,mm,mn,mo,hbldg,hta,htb,htc,hNR,d6,oo⟩
     have op:w.heap.size≤w30.heap.size:=gh.size
     have ql:=ag.lt
     obtain⟨qm,F32,cc⟩:=hbldg
     have hFlg:∀b∈F32,b<w30.heap.size:=cc.lt
     refine A0 (Ad _ [0] Z ?_)
     by_cases j1:((k:Nat):Int)<((xs3.length:Nat):Int)
     ·refine Ax true Z Z (A7 j1) Ac (Ah (A0 (Ai Z (A4 (A0 (A5 (A0 (Ad _ [0,0] Z (Ae 2 Z (AY _ [0,1,1,0,0,1,0,0,3,3,3,3,3,4,0] mixed (by kernel_rfl) (Af 1 Z (AR (p:=(.pointer (some ⟨w3.heap.size,0,none⟩))) (.inl Z) [(.int .i64 i3),va3,vb3,vc3] Dx Z (fun wq9 bk=>LD.of_box (BX.ext (w:=w30.drew) ag bk)) Z Ac (AR (p:=(.pointer (some ⟨w3.heap.size,0,none⟩))) (.inl Z) [(.int .i64 i3),va3,vb3,vc3] Dx Z (fun wq9 bk=>LD.of_box (BX.ext (w:=w30.drew) ag bk)) Z Ac (Af 1 Z (Ao (p:=(.pointer (some ⟨w3.heap.size,0,none⟩))) (b:=w3.heap.size) (o:=0) 3 Eq Z Z Ac ?_)))))))))))))))
      refine Ak (p:=(Ay (.pointer (some ⟨w3.heap.size,0,none⟩)) 3)) (.inl Z) vc3 B6 Z (ag.ldp (i:=3) sM) Ac (AJ (v:=vc3) Bh Z htc.slL Ac (Af 1 Z (Bq (u:=(.int .i64 ((k:Nat):Int))) (B:=w30.heap.size) AQ Bh BA Z Z (N6 w30.heap.size w30.heap.size _ _ oM) (A9 _) Ac fun v34 w34 az qn mp=>?_)))
      replace az:=az.of_drew
      have oq:=az.size
      have mq:=gh.trans az
      have cj:=ag.ext az
      have mr:=d6.ext g2 az
      have ms:=hta.ext (Am AO) az
      have mt:=htb.ext (Am AW) az
      have mu:=htc.ext g1 az
      have mv:=cc.ext OI az
      refine Ap 77 [] [] [(.int .i64 ((xs3.length:Nat):Int)),v34] Z Z eE Ac (OZ _ (xs3.length) _ _ sD mp.rd1 oM (by intro j hj;rw[List.length_singleton]at hj;obtain rfl:j=0:=oM;exact⟨Int.natCast_nonneg k,(by show((k:Nat):Int)<_;omega)⟩)) ?_
      rintro e40 w40 ⟨e7,rfl,bd,gi⟩
      refine⟨_,rfl,bd,?_⟩
      have or:=bd.size
      have mw:=mq.trans bd
      have ck:=cj.ext bd
      have j2:=mr.ext g2 bd
      have j3:=ms.ext (Am AO) bd
      have j4:=mt.ext (Am AW) bd
      have j5:=mu.ext g1 bd
      have mx:=mv.ext OI bd
      refine Ap 182 [] [] [(.agg #[(.int .i64 i3),va3,vb3,vc3]),v14,e7] Z Z Xa Ac (Dz _ m A.length [] (i3) va3 vb3 vc3 (T3) (xs3) v14 (Bb m A T3.code) e7 (G6 xs3.length ([((k:Nat):Int)]) ([((k:Nat):Int)]).length) (fun b hb=>absurd hb List.not_mem_nil) ga j3.rn j4.rn j5.rn j2.rn hrvc gi.rd1 (by exact hm) (by exact hSR) (by rw[BE]) (by exact hTl) (by rw[I1];omega) (by exact hOu) (by exact H6 _ _ _) HC) ?_
      rintro e46 w46 ⟨v46,rfl,be,j6,j7⟩
      refine⟨_,rfl,be,?_⟩
      have os:=be.size
      have my:=mw.trans be
      have cm:=ck.ext be
      have mz:=j2.ext g2 be
      have j8:=j3.ext (Am AO) be
      have j9:=j4.ext (Am AW) be
      have ja:=j5.ext g1 be
      have n0:=mx.ext OI be
      refine Ap 181 [] [] [(.agg #[(.int .i64 i3),va3,vb3,vc3]),v46] Z Z X9 Ac (DA _ m A.length F32 (i3) va3 vb3 vc3 (T3) (xs3) v46 (L6 T3.code (Bb m A T3.code) xs3 (G6 xs3.length [((k:Nat):Int)] 1)) (fun b hb=>(by have:=hFlg b hb;omega:b<w46.heap.size)) ga j8.rn j9.rn ja.rn j6 j7 (by exact hm) oM (by exact hAd _) (by rw[Mu,BE];omega) (by exact hTl) HC) ?_
      rintro e52 w52 ⟨v52,rfl,b0,jb,jc⟩
      refine⟨_,rfl,b0,?_⟩
      have ot:=b0.size
      have n1:=my.trans b0
      have cn:=cm.ext b0
      have n2:=mz.ext g2 b0
      have n3:=j8.ext (Am AO) b0
      have n4:=j9.ext (Am AW) b0
      have n5:=ja.ext g1 b0
      have n6:=j6.ext g2 b0
      have n7:=n0.ext OI b0
      refine Bq (u:=v52) (B:=w52.heap.size) Bd DN Ef Z Z (Nz w52.heap.size w52.heap.size _ (jb.one1 g2)) (A9 _) Ac fun v59 w59 b1 qo n8=>?_
      have ou:=b1.size
      have jd:=n1.trans b1
      have co:=cn.ext b1
      have n9:=n2.ext g2 b1
      have na:=n3.ext (Am AO) b1
      have nb:=n4.ext (Am AW) b1
      have nc:=n5.ext g1 b1
      have qp:=n6.ext g2 b1
      have nd:=jb.ext g2 b1
      have c1:=n7.ext OI b1
      refine OH OI (v:=vo) (a:=v59) (u:=v52) DN Ef Z Z Z c1 oM n8 (RN.mk2 (by rw[List.nil_append];exact nd) jc) sD Rb Ac ?_
      rintro v67 w67 G67 c2 cp ⟨qq,F67,qr⟩
      have ov:w59.heap.size≤w67.heap.size:=c2.size
      have ne:Az w w67:=c2.below jd (fun c hc=>Aa hwG (c1.low c (cp c hc))) jd.size
      have nf:=co.chg c2 (fun hm=>by have:=c1.low _ (cp _ hm);omega)
      have qs:=n9.chg g2 c2 (fun b hb=>by have:=c1.low _ (cp _ hb);omega)
      have qt:=na.chg (Am AO) c2 (fun b hb=>by have:=c1.low _ (cp _ hb);omega)
      have qu:=nb.chg (Am AW) c2 (fun b hb=>by have:=c1.low _ (cp _ hb);omega)
      have qv:=nc.chg g1 c2 (fun b hb=>by have:=c1.low _ (cp _ hb);omega)
      exact Ae 1 Z (Ad _ [0,0] Z (AI ((k+1:Nat):Int) Z Z (B8 oM sD) Ac (Ae 1 Z ⟨((k+1),v67),_,rfl,⟨rfl,rfl,rfl,rfl,rfl,trivial⟩,⟨ne,nf,oM,oM,oM,Rc,Cx,Cx,Cx,oM,Cx,oM⟩,by first|omega|(dsimp only;omega)⟩)))
     ·refine Ax false Z Z (A8 j1) Ac (Ah (A0 (Aj Z (A6 (As (As (An (A0 (Ad _ [0,0,2,3,0,0,0,0] Z ?_)))))))))
      have je:=cc.done (fun b hb=>absurd hb List.not_mem_nil)
      have jf:=cc.cap
      refine Af 1 Z (Ao (p:=(.pointer (some ⟨w3.heap.size,0,none⟩))) (b:=w3.heap.size) (o:=0) 3 Eq Z Z Ac (Ak (p:=(Ay (.pointer (some ⟨w3.heap.size,0,none⟩)) 3)) (.inr Z) vc3 B6 Z (ag.ldp (i:=3) sM) Ac (Ap 183 [] [] [v14,vc3] Z Z Xb Ac (Da _ v14 (Bb m A T3.code) vc3 (xs3) d6.rn hrvc htc.rd Re oM) ?_)))
      rintro e82 w82 ⟨v82,rfl,bm,ng,jg⟩
      refine⟨_,rfl,bm,?_⟩
      have ow:=bm.size
      have nh:=gh.trans bm
      have qw:=d6.ext g2 bm
      have ni:=je.ext ZB bm
      have qx:=hta.ext (Am AO) bm
      have qy:=htb.ext (Am AW) bm
      have qz:=htc.ext g1 bm
      exact Ae 4 Z (A3 (Ag [6,7,8] Z (.tuple #[v82,vo,(.int .i64 ((0:Nat):Int))]) Z ⟨_,_,_,rfl,nh,(by show(0:Int)=_;omega),Rf,(fun _=>⟨(by rw[hEv];exact ng),jg,T3,xs3,s3,bj,hxl,(by have h9:=ni;rw[show k=xs3.length from by omega]at h9;exact h9),jf⟩)⟩))
  ·refine Jx.Yg Z ?_
   have r0:=cx.lt
   refine BJ (z:=.agg #[.int .i64 0,.slice none 0 0,.slice none 0 0,.slice none 0 0]) SN Ac fun w88 d7 nj gj=>?_
   have jh:=d7.size
   have gk:=il.trans d7
   have gl:=cx.ext d7
   have ap:=an.ext (o1) d7
   replace gj:BX w88.heap w2.heap.size [(.int .i64 0),(.slice none 0 0),(.slice none 0 0),(.slice none 0 0)]:=gj
   refine Ap 179 [] [] [(.agg #[vp]),(.int .i64 f),ds] Z Z X7 Ac (GI _ dp vp (p) (f) ds (A.map (fun s=>s.getD 0 0)) (hp.ext (Am (AB dp)) gk) _hf (RN.of_fr1 ap (fun b hb=>absurd hb List.not_mem_nil)) (by exact hok) (by exact hz) oM (by rw[List.length_map];exact hl) (by exact Ep hsA)) ?_
   rintro e90 w90 ⟨i90,va90,vb90,vc90,xs90,T90,s90,c90,rfl,c4,d8,ox,ji,d9,jj⟩
   refine⟨_,rfl,c4,?_⟩
   have jk:=c4.size
   have gm:=gk.trans c4
   have gn:=gl.ext c4
   have bn:=ap.ext (o1) c4
   have dt:=gj.ext c4
   have oy:HF p m f.toNat A=c90:=JU hm.1 hvp oM (Ep hsA) (EJ hsA) KP d8
   have jl:=Az.refl w90
   refine Af 1 Z (B2 (vs:=[(.agg #[(.int .i64 i90),va90,vb90,vc90]),(.int .i64 c90)]) (.agg #[(.int .i64 i90),va90,vb90,vc90]) Z Z Ac (B2 (vs:=[(.agg #[(.int .i64 i90),va90,vb90,vc90]),(.int .i64 c90)]) (.int .i64 c90) Z Z Ac (CT (vs:=[(.int .i64 i90),va90,vb90,vc90]) Dx Z Z (fun u hu=>by rcases List.mem_cons.1 hu with rfl|hu;exact⟨rfl,rfl⟩;exact ji u hu) dt Z Z Ac fun w91 cq nk du=>?_)))
   replace du:BX w91.heap w2.heap.size [(.int .i64 i90),va90,vb90,vc90]:=du
   have dv:Az w w91:=cq.below gm (fun c hc=>by have:=Ab hc;omega) gm.size
   have jm:w90.heap.size≤w91.heap.size:=cq.size
   have jn:=gn.chg cq (fun hm=>by have:=Ab hm;omega)
   have jo:=bn.chg (o1) cq (fun c hc=>by have:=Ab hc;omega)
   have da:AE [w2.heap.size] w90 w91:=(AE.of_ext _ jl).trans cq
   refine Ae 1 Z (A0 (A0 (Ad _ [0,0] Z (Af 1 Z ?_))))
   by_cases jp:c90≠((0:Nat):Int)
   ·exact AZ true Z Z (A7 jp) Ac (Ah (Ai Z (A0 (Ad _ [0,0,0,0] Z (Ae 4 Z (A3 (Aq (Ag [6,7,8] Z (.tuple #[(.slice none 0 0),(.slice none 0 0),(.int .i64 c90)]) Z ⟨_,_,_,rfl,dv,oM,oM,(fun h9=>absurd h9 oM)⟩))))))))
   ·refine AZ false Z Z (A8 jp) Ac (Ah (Aj Z (A4 (A0 (AY _ [1,0,0,3,3,0,0,0,0,0] mixed (by kernel_rfl) ?_)))))
    have ao:c90=0:=by omega
    obtain⟨oi,hTB,oj,hxl,hEn,io,ip,iq⟩:=jj ao
    obtain⟨hTI,hEv⟩:=JV hm.1 hvp oM (Ep hsA) (EJ hsA) KP d8 ao
    have hnz:=hTI.nz
    have hcl:=hTI.cl
    have bj:=d8
    rw[ao]at bj
    have hTl:T90.code.length≤4000:=by have:=hTB.2.1;omega
    have cy:RT w91.heap.size (Dp 4 QI) w91.heap va90 T90.code:=RN.rt (Am AO) (RN.chg (Am AO) (RG.rnG (g:=w2.heap.size) (Am AO) io oM) da)
    have cz:RT w91.heap.size (Dp 2 S7) w91.heap vb90 T90.grd:=RN.rt (Am AW) (RN.chg (Am AW) (RG.rnG (g:=w2.heap.size) (Am AW) ip oM) da)
    have d0:RT w91.heap.size (B3 rI) w91.heap vc90 xs90:=RN.rt g1 (RN.chg g1 (RG.rnG (g:=w2.heap.size) g1 iq oM) da)
    have hoo:=QQ hm.1 ly hsA
    have hom:((Qh A:Nat):Int).toNat+1=m:=by omega
    have hSR:=hTI.regs
    have ok:0<T90.code.length:=by have:=hTI.outs hEn 0 oM;omega
    have hOu:=hTI.outs hEn
    have hAd:=fun ws=>hTI.adj (ws:=ws) hEn
    refine AR (p:=(.pointer (some ⟨w2.heap.size,0,none⟩))) (.inl Z) [(.int .i64 i90),va90,vb90,vc90] Dx Z (fun wq9 bk=>LD.of_box (BX.ext (w:=w91.drew) du bk)) Z Ac (Af 2 Z (Ap 87 [] [] [vA] Z Z eH Ac (Gc _ vA (A) (hA.ext g2 dv.drew) hqA (by exact fun h=>ii 0 h)) ?_))
    rintro e95 w95 ⟨rfl,am⟩
    refine⟨_,rfl,am,?_⟩
    replace am:=am.of_drew
    have jq:=am.size
    have go:=dv.trans am
    have cd:=jn.ext am
    have ce:=jo.ext (o1) am
    have dw:=du.ext am
    have jr:=cy.ext (Am AO) am
    have js:=cz.ext (Am AW) am
    have jt:=d0.ext g1 am
    refine Ap 180 [] [] [(.agg #[(.int .i64 i90),va90,vb90,vc90]),vA,(.int .i64 ((Qh A:Nat):Int))] Z Z X8 Ac (Di _ (i90) va90 vb90 vc90 (T90) (xs90) vA (A) (((Qh A:Nat):Int)) d9 jr.rn js.rn jt.rn (hA.ext g2 go) hqA (by unfold Qh;omega) oM (by rw[hom];exact hsA) HC (by exact hTl)) ?_
    rintro e99 w99 ⟨v99,c99,rfl,b2,e8,ju⟩
    refine⟨_,rfl,b2,?_⟩
    have jv:=b2.size
    have jw:=go.trans b2
    have bf:=cd.ext b2
    have cf:=ce.ext (o1) b2
    have cg:=dw.ext b2
    have jx:=jr.ext (Am AO) b2
    have jy:=js.ext (Am AW) b2
    have jz:=jt.ext g1 b2
    have oz:c99=0∨c99=6:=by unfold YE at e8;omega
    have hcz:c99=0:=by rcases e8 with h9|h9;exact h9.1;(have h8:=h9.2;rw[hom]at h8;exact absurd hnz h8)
    obtain⟨bl,hrvc⟩:=ju hcz
    rw[hom]at bl
    have hrvt:=bl.rt g2
    refine Af 1 Z (B2 (vs:=[v99,(.int .i64 c99)]) v99 Z Z Ac (B2 (vs:=[v99,(.int .i64 c99)]) (.int .i64 c99) Z Z Ac (Ae 2 Z (A0 (A0 (Ad _ [0,0] Z (Af 1 Z ?_)))))))
    by_cases e9:c99≠((0:Nat):Int)
    ·exact absurd e9 oM
    ·refine AZ false Z Z (A8 e9) Ac (Ah (Aj Z (A4 (A0 (Ad _ [3,0] Z ?_)))))
     obtain⟨BG,hBG⟩:∃b:Nat,b=w99.heap.size:=⟨_,rfl⟩
     have hwG:w.heap.size≤BG:=by omega
     have nl:w91.heap.size≤BG:=by omega
     have nm:w99.heap.size≤BG:=by omega
     have p0:w.heap.size<BG:=by have:=BX.lt bf;omega
     have p1:w2.heap.size<BG:=by have:=BX.lt cg;omega
     refine BI rV Bd DN Ef Ac fun v104 w104 a3 k0 db=>?_
     have gp:=a3.size
     have ea:=jw.trans a3
     have dc:=bf.ext a3
     have dd:=cf.ext (o1) a3
     have bo:=cg.ext a3
     have p2:=jx.ext (Am AO) a3
     have p3:=jy.ext (Am AW) a3
     have k1:=jz.ext g1 a3
     have p4:=hrvt.ext g2 a3
     obtain⟨p5,F104,p6⟩:=Hw.nil (E:=KC (B3 rI)) (S:=[]) (by rw[← hBG]at db;exact db)
     refine Ae 1 Z (A0 (A0 (Ad _ [0,2,0,0] Z (Ao (p:=(.pointer (some ⟨w2.heap.size,0,none⟩))) (b:=w2.heap.size) (o:=0) 3 Eq Z Z Ac (Ak (p:=(Ay (.pointer (some ⟨w2.heap.size,0,none⟩)) 3)) (.inr Z) vc90 B6 Z (bo.ldp (i:=3) sM) Ac (AJ (v:=vc90) Bh Z k1.slL Ac (Ae 1 Z (A5 ?_))))))))
     refine AN (S:=Nat×Value) (fun⟨k,vo⟩=>([(12,vo),(40,(.int .i64 ((k:Nat):Int))),(9,(.pointer (some ⟨w2.heap.size,0,none⟩))),(11,v99),(39,(.int .i64 ((xs90.length:Nat):Int)))])) (fun⟨k,vo⟩ W=>Az w W∧BX W.heap w2.heap.size [(.int .i64 i90),va90,vb90,vc90]∧k≤xs90.length∧w.heap.size≤BG∧BG≤W.heap.size∧(∃us F,Hw (KC (B3 rI)) 32 [] BG W.heap vo (IB m T90 xs90 A k) us F)∧RT w91.heap.size (Dp 4 QI) W.heap va90 T90.code∧RT w91.heap.size (Dp 2 S7) W.heap vb90 T90.grd∧RT w91.heap.size (B3 rI) W.heap vc90 xs90∧w91.heap.size≤W.heap.size∧RT w99.heap.size (B3 (B3 rI)) W.heap v99 (Bb m A T90.code)∧w99.heap.size≤W.heap.size) (fun⟨k,vo⟩=>xs90.length-k) (0,v104) ⟨rfl,rfl,rfl,rfl,rfl,trivial⟩ ⟨ea,bo,oM,oM,oM,(by exact⟨_,_,by assumption⟩),Cx,Cx,Cx,oM,Cx,oM⟩ ?_
     clear lz m8 ij g8 id an e4 ik il nj d7 jh gk ap c4 jk gm bn nk cq dv jm jn jo am jq go cd ce b2 jv jw bf cf db k0 a3 gp ea dc dd
     rintro⟨k,vo⟩ ρ115 w115 ⟨de,a1,m2,m3,m4,hbldg,hta,htb,htc,hNR,c5,nn⟩
     have no:w.heap.size≤w115.heap.size:=de.size
     have p7:=a1.lt
     obtain⟨p8,F117,bg⟩:=hbldg
     have hFlg:∀b∈F117,b<w115.heap.size:=bg.lt
     refine A0 (Ad _ [0] Z ?_)
     by_cases eb:((k:Nat):Int)<((xs90.length:Nat):Int)
     ·refine Ax true Z Z (A7 eb) Ac (Ah (A0 (Ai Z (A4 (A0 (A5 (A0 (Ad _ [0,0] Z (Ae 2 Z (AY _ [0,1,1,0,0,1,0,0,3,3,3,3,3,4,0] mixed (by kernel_rfl) (Af 1 Z (AR (p:=(.pointer (some ⟨w2.heap.size,0,none⟩))) (.inl Z) [(.int .i64 i90),va90,vb90,vc90] Dx Z (fun wq9 bk=>LD.of_box (BX.ext (w:=w115.drew) a1 bk)) Z Ac (AR (p:=(.pointer (some ⟨w2.heap.size,0,none⟩))) (.inl Z) [(.int .i64 i90),va90,vb90,vc90] Dx Z (fun wq9 bk=>LD.of_box (BX.ext (w:=w115.drew) a1 bk)) Z Ac (Af 1 Z (Ao (p:=(.pointer (some ⟨w2.heap.size,0,none⟩))) (b:=w2.heap.size) (o:=0) 3 Eq Z Z Ac ?_)))))))))))))))
      refine Ak (p:=(Ay (.pointer (some ⟨w2.heap.size,0,none⟩)) 3)) (.inl Z) vc90 B6 Z (a1.ldp (i:=3) sM) Ac (AJ (v:=vc90) Bh Z htc.slL Ac (Af 1 Z (Bq (u:=(.int .i64 ((k:Nat):Int))) (B:=w115.heap.size) AQ Bh BA Z Z (N6 w115.heap.size w115.heap.size _ _ oM) (A9 _) Ac fun v119 w119 a4 p9 k2=>?_)))
      replace a4:=a4.of_drew
      have np:=a4.size
      have k3:=de.trans a4
      have bp:=a1.ext a4
      have k4:=c5.ext g2 a4
      have k5:=hta.ext (Am AO) a4
      have k6:=htb.ext (Am AW) a4
      have k7:=htc.ext g1 a4
      have k8:=bg.ext OI a4
      refine Ap 77 [] [] [(.int .i64 ((xs90.length:Nat):Int)),v119] Z Z eE Ac (OZ _ (xs90.length) _ _ sD k2.rd1 oM (by intro j hj;rw[List.length_singleton]at hj;obtain rfl:j=0:=oM;exact⟨Int.natCast_nonneg k,(by show((k:Nat):Int)<_;omega)⟩)) ?_
      rintro e125 w125 ⟨df,rfl,ac,dx⟩
      refine⟨_,rfl,ac,?_⟩
      have nq:=ac.size
      have k9:=k3.trans ac
      have bq:=bp.ext ac
      have ec:=k4.ext g2 ac
      have ed:=k5.ext (Am AO) ac
      have ee:=k6.ext (Am AW) ac
      have ef:=k7.ext g1 ac
      have ka:=k8.ext OI ac
      refine Ap 182 [] [] [(.agg #[(.int .i64 i90),va90,vb90,vc90]),v99,df] Z Z Xa Ac (Dz _ m A.length [] (i90) va90 vb90 vc90 (T90) (xs90) v99 (Bb m A T90.code) df (G6 xs90.length ([((k:Nat):Int)]) ([((k:Nat):Int)]).length) (fun b hb=>absurd hb List.not_mem_nil) d9 ed.rn ee.rn ef.rn ec.rn hrvc dx.rd1 (by exact hm) (by exact hSR) (by rw[BE]) (by exact hTl) (by rw[I1];omega) (by exact hOu) (by exact H6 _ _ _) HC) ?_
      rintro e131 w131 ⟨v131,rfl,ad,eg,gq⟩
      refine⟨_,rfl,ad,?_⟩
      have nr:=ad.size
      have kb:=k9.trans ad
      have br:=bq.ext ad
      have kc:=ec.ext g2 ad
      have eh:=ed.ext (Am AO) ad
      have ei:=ee.ext (Am AW) ad
      have ej:=ef.ext g1 ad
      have kd:=ka.ext OI ad
      refine Ap 181 [] [] [(.agg #[(.int .i64 i90),va90,vb90,vc90]),v131] Z Z X9 Ac (DA _ m A.length F117 (i90) va90 vb90 vc90 (T90) (xs90) v131 (L6 T90.code (Bb m A T90.code) xs90 (G6 xs90.length [((k:Nat):Int)] 1)) (fun b hb=>(by have:=hFlg b hb;omega:b<w131.heap.size)) d9 eh.rn ei.rn ej.rn eg gq (by exact hm) oM (by exact hAd _) (by rw[Mu,BE];omega) (by exact hTl) HC) ?_
      rintro e137 w137 ⟨v137,rfl,a5,ek,gr⟩
      refine⟨_,rfl,a5,?_⟩
      have ns:=a5.size
      have ke:=kb.trans a5
      have bs:=br.ext a5
      have kf:=kc.ext g2 a5
      have kg:=eh.ext (Am AO) a5
      have kh:=ei.ext (Am AW) a5
      have ki:=ej.ext g1 a5
      have kj:=eg.ext g2 a5
      have kk:=kd.ext OI a5
      refine Bq (u:=v137) (B:=w137.heap.size) Bd DN Ef Z Z (Nz w137.heap.size w137.heap.size _ (ek.one1 g2)) (A9 _) Ac fun v144 w144 a6 pa kl=>?_
      have nt:=a6.size
      have el:=ke.trans a6
      have bt:=bs.ext a6
      have km:=kf.ext g2 a6
      have kn:=kg.ext (Am AO) a6
      have ko:=kh.ext (Am AW) a6
      have kp:=ki.ext g1 a6
      have pb:=kj.ext g2 a6
      have kq:=ek.ext g2 a6
      have aq:=kk.ext OI a6
      refine OH OI (v:=vo) (a:=v144) (u:=v137) DN Ef Z Z Z aq oM kl (RN.mk2 (by rw[List.nil_append];exact kq) gr) sD Rb Ac ?_
      rintro v152 w152 G152 ar b3 ⟨pc,F152,pd⟩
      have nu:w144.heap.size≤w152.heap.size:=ar.size
      have kr:Az w w152:=ar.below el (fun c hc=>Aa hwG (aq.low c (b3 c hc))) el.size
      have ks:=bt.chg ar (fun hm=>by have:=aq.low _ (b3 _ hm);omega)
      have pe:=km.chg g2 ar (fun b hb=>by have:=aq.low _ (b3 _ hb);omega)
      have pf:=kn.chg (Am AO) ar (fun b hb=>by have:=aq.low _ (b3 _ hb);omega)
      have pg:=ko.chg (Am AW) ar (fun b hb=>by have:=aq.low _ (b3 _ hb);omega)
      have ph:=kp.chg g1 ar (fun b hb=>by have:=aq.low _ (b3 _ hb);omega)
      exact Ae 1 Z (Ad _ [0,0] Z (AI ((k+1:Nat):Int) Z Z (B8 oM sD) Ac (Ae 1 Z ⟨((k+1),v152),_,rfl,⟨rfl,rfl,rfl,rfl,rfl,trivial⟩,⟨kr,ks,oM,oM,oM,Rc,Cx,Cx,Cx,oM,Cx,oM⟩,by first|omega|(dsimp only;omega)⟩)))
     ·refine Ax false Z Z (A8 eb) Ac (Ah (A0 (Aj Z (A6 (As (As (An (A0 (Ad _ [0,0,2,3,0,0,0,0] Z ?_)))))))))
      have gs:=bg.done (fun b hb=>absurd hb List.not_mem_nil)
      have gt:=bg.cap
      refine Af 1 Z (Ao (p:=(.pointer (some ⟨w2.heap.size,0,none⟩))) (b:=w2.heap.size) (o:=0) 3 Eq Z Z Ac (Ak (p:=(Ay (.pointer (some ⟨w2.heap.size,0,none⟩)) 3)) (.inr Z) vc90 B6 Z (a1.ldp (i:=3) sM) Ac (Ap 183 [] [] [v99,vc90] Z Z Xb Ac (Da _ v99 (Bb m A T90.code) vc90 (xs90) c5.rn hrvc htc.rd Re oM) ?_)))
      rintro e167 w167 ⟨v167,rfl,ai,kt,gu⟩
      refine⟨_,rfl,ai,?_⟩
      have nv:=ai.size
      have ku:=de.trans ai
      have pi:=c5.ext g2 ai
      have kv:=gs.ext ZB ai
      have pj:=hta.ext (Am AO) ai
      have pk:=htb.ext (Am AW) ai
      have pl:=htc.ext g1 ai
      exact Ae 4 Z (A3 (Ag [6,7,8] Z (.tuple #[v167,vo,(.int .i64 ((0:Nat):Int))]) Z ⟨_,_,_,rfl,ku,(by show(0:Int)=_;omega),Rf,(fun _=>⟨(by rw[hEv];exact kt),gu,T90,xs90,s90,bj,hxl,(by have h9:=kv;rw[show k=xs90.length from by omega]at h9;exact h9),gt⟩)⟩))
 ·refine Jx.Yg Z ?_
  have pm:=ic.lt
  have nw:w1.drew.heap.size=w1.heap.size:=rfl
  refine BJ (z:=.agg #[.int .i64 0,.slice none 0 0,.slice none 0 0,.slice none 0 0]) SN Ac fun w173 b4 kw dg=>?_
  replace b4:=b4.of_drew
  have gv:=b4.size
  have dh:=id.trans b4
  have dy:=ic.ext b4
  replace dg:BX w173.heap w1.drew.heap.size [(.int .i64 0),(.slice none 0 0),(.slice none 0 0),(.slice none 0 0)]:=dg
  refine Ap 99 [] [] [vA] Z Z eJ Ac (GH _ _ _ ((hA.ext g2 dh)).rd oM (by exact ii)) ?_
  rintro e175 w175 ⟨di,rfl,b5,bh⟩
  refine⟨_,rfl,b5,?_⟩
  have gw:=b5.size
  have dj:=dh.trans b5
  have dz:=dy.ext b5
  have cr:=dg.ext b5
  refine Ap 179 [] [] [(.agg #[vp]),(.int .i64 f),di] Z Z X7 Ac (GI _ dp vp (p) (f) di (A.map (fun s=>s.getD 0 0)) (hp.ext (Am (AB dp)) dj) _hf (RN.of_fr1 bh (fun b hb=>absurd hb List.not_mem_nil)) (by exact hok) (by exact hz) oM (by rw[List.length_map];exact hl) (by exact Ep hsA)) ?_
  rintro e176 w176 ⟨i176,va176,vb176,vc176,xs176,T176,s176,c176,rfl,au,c6,nx,gx,c7,gy⟩
  refine⟨_,rfl,au,?_⟩
  have gz:=au.size
  have dk:=dj.trans au
  have e0:=dz.ext au
  have ct:=cr.ext au
  have aj:=bh.ext (o1) au
  have ny:HF p m f.toNat A=c176:=JU hm.1 hvp oM (Ep hsA) (EJ hsA) KP c6
  have i0:=Az.refl w176
  refine Af 1 Z (B2 (vs:=[(.agg #[(.int .i64 i176),va176,vb176,vc176]),(.int .i64 c176)]) (.agg #[(.int .i64 i176),va176,vb176,vc176]) Z Z Ac (B2 (vs:=[(.agg #[(.int .i64 i176),va176,vb176,vc176]),(.int .i64 c176)]) (.int .i64 c176) Z Z Ac (CT (vs:=[(.int .i64 i176),va176,vb176,vc176]) Dx Z Z (fun u hu=>by rcases List.mem_cons.1 hu with rfl|hu;exact⟨rfl,rfl⟩;exact gx u hu) ct Z Z Ac fun w177 b6 kx ch=>?_)))
  replace ch:BX w177.heap w1.drew.heap.size [(.int .i64 i176),va176,vb176,vc176]:=ch
  have ci:Az w w177:=b6.below dk (fun c hc=>by have:=Ab hc;omega) dk.size
  have i1:w176.heap.size≤w177.heap.size:=b6.size
  have em:=e0.chg b6 (fun hm=>by have:=Ab hm;omega)
  have en:=aj.chg (o1) b6 (fun c hc=>by have:=Ab hc;omega)
  have c8:AE [w1.drew.heap.size] w176 w177:=(AE.of_ext _ i0).trans b6
  refine Ae 1 Z (A0 (A0 (Ad _ [0,0] Z (Af 1 Z ?_))))
  by_cases eo:c176≠((0:Nat):Int)
  ·exact AZ true Z Z (A7 eo) Ac (Ah (Ai Z (A0 (Ad _ [0,0,0,0] Z (Ae 4 Z (A3 (Aq (Ag [6,7,8] Z (.tuple #[(.slice none 0 0),(.slice none 0 0),(.int .i64 c176)]) Z ⟨_,_,_,rfl,ci,oM,oM,(fun h9=>absurd h9 oM)⟩))))))))
  ·refine AZ false Z Z (A8 eo) Ac (Ah (Aj Z (A4 (A0 (AY _ [1,0,0,3,3,0,0,0,0,0] mixed (by kernel_rfl) ?_)))))
   have ao:c176=0:=by omega
   obtain⟨oi,hTB,oj,hxl,hEn,io,ip,iq⟩:=gy ao
   obtain⟨hTI,hEv⟩:=JV hm.1 hvp oM (Ep hsA) (EJ hsA) KP c6 ao
   have hnz:=hTI.nz
   have hcl:=hTI.cl
   have bj:=c6
   rw[ao]at bj
   have hTl:T176.code.length≤4000:=by have:=hTB.2.1;omega
   have cy:RT w177.heap.size (Dp 4 QI) w177.heap va176 T176.code:=RN.rt (Am AO) (RN.chg (Am AO) (RG.rnG (g:=w1.drew.heap.size) (Am AO) io oM) c8)
   have cz:RT w177.heap.size (Dp 2 S7) w177.heap vb176 T176.grd:=RN.rt (Am AW) (RN.chg (Am AW) (RG.rnG (g:=w1.drew.heap.size) (Am AW) ip oM) c8)
   have d0:RT w177.heap.size (B3 rI) w177.heap vc176 xs176:=RN.rt g1 (RN.chg g1 (RG.rnG (g:=w1.drew.heap.size) g1 iq oM) c8)
   have hoo:=QQ hm.1 ly hsA
   have hom:((Qh A:Nat):Int).toNat+1=m:=by omega
   have hSR:=hTI.regs
   have ok:0<T176.code.length:=by have:=hTI.outs hEn 0 oM;omega
   have hOu:=hTI.outs hEn
   have hAd:=fun ws=>hTI.adj (ws:=ws) hEn
   refine AR (p:=(.pointer (some ⟨w1.drew.heap.size,0,none⟩))) (.inl Z) [(.int .i64 i176),va176,vb176,vc176] Dx Z (fun wq9 bk=>LD.of_box (BX.ext (w:=w177.drew) ch bk)) Z Ac (Af 2 Z (Ap 87 [] [] [vA] Z Z eH Ac (Gc _ vA (A) (hA.ext g2 ci.drew) hqA (by exact fun h=>ii 0 h)) ?_))
   rintro e181 w181 ⟨rfl,a0⟩
   refine⟨_,rfl,a0,?_⟩
   replace a0:=a0.of_drew
   have i2:=a0.size
   have dl:=ci.trans a0
   have b7:=em.ext a0
   have cu:=ch.ext a0
   have b8:=en.ext (o1) a0
   have ep:=cy.ext (Am AO) a0
   have eq:=cz.ext (Am AW) a0
   have er:=d0.ext g1 a0
   refine Ap 180 [] [] [(.agg #[(.int .i64 i176),va176,vb176,vc176]),vA,(.int .i64 ((Qh A:Nat):Int))] Z Z X8 Ac (Di _ (i176) va176 vb176 vc176 (T176) (xs176) vA (A) (((Qh A:Nat):Int)) c7 ep.rn eq.rn er.rn (hA.ext g2 dl) hqA (by unfold Qh;omega) oM (by rw[hom];exact hsA) HC (by exact hTl)) ?_
   rintro e185 w185 ⟨v185,c185,rfl,a7,dm,i4⟩
   refine⟨_,rfl,a7,?_⟩
   have i5:=a7.size
   have es:=dl.trans a7
   have ah:=b7.ext a7
   have b9:=cu.ext a7
   have ba:=b8.ext (o1) a7
   have ky:=ep.ext (Am AO) a7
   have kz:=eq.ext (Am AW) a7
   have l0:=er.ext g1 a7
   have o0:c185=0∨c185=6:=by unfold YE at dm;omega
   have hcz:c185=0:=by rcases dm with h9|h9;exact h9.1;(have h8:=h9.2;rw[hom]at h8;exact absurd hnz h8)
   obtain⟨bl,hrvc⟩:=i4 hcz
   rw[hom]at bl
   have hrvt:=bl.rt g2
   refine Af 1 Z (B2 (vs:=[v185,(.int .i64 c185)]) v185 Z Z Ac (B2 (vs:=[v185,(.int .i64 c185)]) (.int .i64 c185) Z Z Ac (Ae 2 Z (A0 (A0 (Ad _ [0,0] Z (Af 1 Z ?_)))))))
   by_cases et:c185≠((0:Nat):Int)
   ·exact absurd et oM
   ·refine AZ false Z Z (A8 et) Ac (Ah (Aj Z (A4 (A0 (Ad _ [3,0] Z ?_)))))
    obtain⟨BG,hBG⟩:∃b:Nat,b=w185.heap.size:=⟨_,rfl⟩
    have hwG:w.heap.size≤BG:=by omega
    have o2:w177.heap.size≤BG:=by omega
    have o3:w185.heap.size≤BG:=by omega
    have pn:w.heap.size<BG:=by have:=BX.lt ah;omega
    have po:w1.drew.heap.size<BG:=by have:=BX.lt b9;omega
    refine BI rV Bd DN Ef Ac fun v190 w190 a8 l1 dn=>?_
    have i6:=a8.size
    have eu:=es.trans a8
    have cv:=ah.ext a8
    have bb:=b9.ext a8
    have cw:=ba.ext (o1) a8
    have pp:=ky.ext (Am AO) a8
    have pq:=kz.ext (Am AW) a8
    have l2:=l0.ext g1 a8
    have pr:=hrvt.ext g2 a8
    obtain⟨ps,F190,pt⟩:=Hw.nil (E:=KC (B3 rI)) (S:=[]) (by rw[← hBG]at dn;exact dn)
    refine Ae 1 Z (A0 (A0 (Ad _ [0,2,0,0] Z (Ao (p:=(.pointer (some ⟨w1.drew.heap.size,0,none⟩))) (b:=w1.drew.heap.size) (o:=0) 3 Eq Z Z Ac (Ak (p:=(Ay (.pointer (some ⟨w1.drew.heap.size,0,none⟩)) 3)) (.inr Z) vc176 B6 Z (bb.ldp (i:=3) sM) Ac (AJ (v:=vc176) Bh Z l2.slL Ac (Ae 1 Z (A5 ?_))))))))
    refine AN (S:=Nat×Value) (fun⟨k,vo⟩=>([(12,vo),(40,(.int .i64 ((k:Nat):Int))),(9,(.pointer (some ⟨w1.drew.heap.size,0,none⟩))),(11,v185),(39,(.int .i64 ((xs176.length:Nat):Int)))])) (fun⟨k,vo⟩ W=>Az w W∧BX W.heap w1.drew.heap.size [(.int .i64 i176),va176,vb176,vc176]∧k≤xs176.length∧w.heap.size≤BG∧BG≤W.heap.size∧(∃us F,Hw (KC (B3 rI)) 32 [] BG W.heap vo (IB m T176 xs176 A k) us F)∧RT w177.heap.size (Dp 4 QI) W.heap va176 T176.code∧RT w177.heap.size (Dp 2 S7) W.heap vb176 T176.grd∧RT w177.heap.size (B3 rI) W.heap vc176 xs176∧w177.heap.size≤W.heap.size∧RT w185.heap.size (B3 (B3 rI)) W.heap v185 (Bb m A T176.code)∧w185.heap.size≤W.heap.size) (fun⟨k,vo⟩=>xs176.length-k) (0,v190) ⟨rfl,rfl,rfl,rfl,rfl,trivial⟩ ⟨eu,bb,oM,oM,oM,(by exact⟨_,_,by assumption⟩),Cx,Cx,Cx,oM,Cx,oM⟩ ?_
    clear lz m8 ij g8 id kw b4 gv dh bh b5 gw dj au gz dk aj kx b6 ci i1 em en a0 i2 dl b7 b8 a7 i5 es ah ba dn l1 a8 i6 eu cv cw
    rintro⟨k,vo⟩ ρ201 w201 ⟨dq,a2,m5,m6,m7,hbldg,hta,htb,htc,hNR,c9,o4⟩
    have o5:w.heap.size≤w201.heap.size:=dq.size
    have pu:=a2.lt
    obtain⟨pv,F203,bi⟩:=hbldg
    have hFlg:∀b∈F203,b<w201.heap.size:=bi.lt
    refine A0 (Ad _ [0] Z ?_)
    by_cases ev:((k:Nat):Int)<((xs176.length:Nat):Int)
    ·refine Ax true Z Z (A7 ev) Ac (Ah (A0 (Ai Z (A4 (A0 (A5 (A0 (Ad _ [0,0] Z (Ae 2 Z (AY _ [0,1,1,0,0,1,0,0,3,3,3,3,3,4,0] mixed (by kernel_rfl) (Af 1 Z (AR (p:=(.pointer (some ⟨w1.drew.heap.size,0,none⟩))) (.inl Z) [(.int .i64 i176),va176,vb176,vc176] Dx Z (fun wq9 bk=>LD.of_box (BX.ext (w:=w201.drew) a2 bk)) Z Ac (AR (p:=(.pointer (some ⟨w1.drew.heap.size,0,none⟩))) (.inl Z) [(.int .i64 i176),va176,vb176,vc176] Dx Z (fun wq9 bk=>LD.of_box (BX.ext (w:=w201.drew) a2 bk)) Z Ac (Af 1 Z ?_))))))))))))))
     refine Ao (p:=(.pointer (some ⟨w1.drew.heap.size,0,none⟩))) (b:=w1.drew.heap.size) (o:=0) 3 Eq Z Z Ac (Ak (p:=(Ay (.pointer (some ⟨w1.drew.heap.size,0,none⟩)) 3)) (.inl Z) vc176 B6 Z (a2.ldp (i:=3) sM) Ac (AJ (v:=vc176) Bh Z htc.slL Ac (Af 1 Z (Bq (u:=(.int .i64 ((k:Nat):Int))) (B:=w201.heap.size) AQ Bh BA Z Z (N6 w201.heap.size w201.heap.size _ _ oM) (A9 _) Ac fun v205 w205 a9 pw l3=>?_))))
     replace a9:=a9.of_drew
     have o6:=a9.size
     have l4:=dq.trans a9
     have bu:=a2.ext a9
     have l5:=c9.ext g2 a9
     have l6:=hta.ext (Am AO) a9
     have l7:=htb.ext (Am AW) a9
     have l8:=htc.ext g1 a9
     have l9:=bi.ext OI a9
     refine Ap 77 [] [] [(.int .i64 ((xs176.length:Nat):Int)),v205] Z Z eE Ac (OZ _ (xs176.length) _ _ sD l3.rd1 oM (by intro j hj;rw[List.length_singleton]at hj;obtain rfl:j=0:=oM;exact⟨Int.natCast_nonneg k,(by show((k:Nat):Int)<_;omega)⟩)) ?_
     rintro e211 w211 ⟨dr,rfl,ae,e1⟩
     refine⟨_,rfl,ae,?_⟩
     have o7:=ae.size
     have la:=l4.trans ae
     have bv:=bu.ext ae
     have ew:=l5.ext g2 ae
     have ex:=l6.ext (Am AO) ae
     have ey:=l7.ext (Am AW) ae
     have ez:=l8.ext g1 ae
     have lb:=l9.ext OI ae
     refine Ap 182 [] [] [(.agg #[(.int .i64 i176),va176,vb176,vc176]),v185,dr] Z Z Xa Ac (Dz _ m A.length [] (i176) va176 vb176 vc176 (T176) (xs176) v185 (Bb m A T176.code) dr (G6 xs176.length ([((k:Nat):Int)]) ([((k:Nat):Int)]).length) (fun b hb=>absurd hb List.not_mem_nil) c7 ex.rn ey.rn ez.rn ew.rn hrvc e1.rd1 (by exact hm) (by exact hSR) (by rw[BE]) (by exact hTl) (by rw[I1];omega) (by exact hOu) (by exact H6 _ _ _) HC) ?_
     rintro e217 w217 ⟨v217,rfl,af,g0,i7⟩
     refine⟨_,rfl,af,?_⟩
     have o8:=af.size
     have lc:=la.trans af
     have bw:=bv.ext af
     have ld:=ew.ext g2 af
     have g3:=ex.ext (Am AO) af
     have g4:=ey.ext (Am AW) af
     have g5:=ez.ext g1 af
     have le:=lb.ext OI af
     refine Ap 181 [] [] [(.agg #[(.int .i64 i176),va176,vb176,vc176]),v217] Z Z X9 Ac (DA _ m A.length F203 (i176) va176 vb176 vc176 (T176) (xs176) v217 (L6 T176.code (Bb m A T176.code) xs176 (G6 xs176.length [((k:Nat):Int)] 1)) (fun b hb=>(by have:=hFlg b hb;omega:b<w217.heap.size)) c7 g3.rn g4.rn g5.rn g0 i7 (by exact hm) oM (by exact hAd _) (by rw[Mu,BE];omega) (by exact hTl) HC) ?_
     rintro e223 w223 ⟨v223,rfl,aa,g6,i8⟩
     refine⟨_,rfl,aa,?_⟩
     have o9:=aa.size
     have lf:=lc.trans aa
     have bx:=bw.ext aa
     have lg:=ld.ext g2 aa
     have lh:=g3.ext (Am AO) aa
     have li:=g4.ext (Am AW) aa
     have lj:=g5.ext g1 aa
     have lk:=g0.ext g2 aa
     have ll:=le.ext OI aa
     refine Bq (u:=v223) (B:=w223.heap.size) Bd DN Ef Z Z (Nz w223.heap.size w223.heap.size _ (g6.one1 g2)) (A9 _) Ac fun v230 w230 ab px lm=>?_
     have oa:=ab.size
     have g7:=lf.trans ab
     have bz:=bx.ext ab
     have ln:=lg.ext g2 ab
     have lo:=lh.ext (Am AO) ab
     have lp:=li.ext (Am AW) ab
     have lq:=lj.ext g1 ab
     have py:=lk.ext g2 ab
     have lr:=g6.ext g2 ab
     have av:=ll.ext OI ab
     refine OH OI (v:=vo) (a:=v230) (u:=v223) DN Ef Z Z Z av oM lm (RN.mk2 (by rw[List.nil_append];exact lr) i8) sD Rb Ac ?_
     rintro v238 w238 G238 aw bc ⟨pz,F238,q0⟩
     have ob:w230.heap.size≤w238.heap.size:=aw.size
     have ls:Az w w238:=aw.below g7 (fun c hc=>Aa hwG (av.low c (bc c hc))) g7.size
     have lu:=bz.chg aw (fun hm=>by have:=av.low _ (bc _ hm);omega)
     have q1:=ln.chg g2 aw (fun b hb=>by have:=av.low _ (bc _ hb);omega)
     have q2:=lo.chg (Am AO) aw (fun b hb=>by have:=av.low _ (bc _ hb);omega)
     have q3:=lp.chg (Am AW) aw (fun b hb=>by have:=av.low _ (bc _ hb);omega)
     have q4:=lq.chg g1 aw (fun b hb=>by have:=av.low _ (bc _ hb);omega)
     exact Ae 1 Z (Ad _ [0,0] Z (AI ((k+1:Nat):Int) Z Z (B8 oM sD) Ac (Ae 1 Z ⟨((k+1),v238),_,rfl,⟨rfl,rfl,rfl,rfl,rfl,trivial⟩,⟨ls,lu,oM,oM,oM,Rc,Cx,Cx,Cx,oM,Cx,oM⟩,by first|omega|(dsimp only;omega)⟩)))
    ·refine Ax false Z Z (A8 ev) Ac (Ah (A0 (Aj Z (A6 (As (As (An (A0 (Ad _ [0,0,2,3,0,0,0,0] Z ?_)))))))))
     have i9:=bi.done (fun b hb=>absurd hb List.not_mem_nil)
     have ia:=bi.cap
     refine Af 1 Z (Ao (p:=(.pointer (some ⟨w1.drew.heap.size,0,none⟩))) (b:=w1.drew.heap.size) (o:=0) 3 Eq Z Z Ac (Ak (p:=(Ay (.pointer (some ⟨w1.drew.heap.size,0,none⟩)) 3)) (.inr Z) vc176 B6 Z (a2.ldp (i:=3) sM) Ac (Ap 183 [] [] [v185,vc176] Z Z Xb Ac (Da _ v185 (Bb m A T176.code) vc176 (xs176) c9.rn hrvc htc.rd Re oM) ?_)))
     rintro e253 w253 ⟨v253,rfl,ak,lv,ib⟩
     refine⟨_,rfl,ak,?_⟩
     have oc:=ak.size
     have lw:=dq.trans ak
     have q5:=c9.ext g2 ak
     have lx:=i9.ext ZB ak
     have q6:=hta.ext (Am AO) ak
     have q7:=htb.ext (Am AW) ak
     have q8:=htc.ext g1 ak
     exact Ae 4 Z (A3 (Ag [6,7,8] Z (.tuple #[v253,vo,(.int .i64 ((0:Nat):Int))]) Z ⟨_,_,_,rfl,lw,(by show(0:Int)=_;omega),Rf,(fun _=>⟨(by rw[hEv];exact lv),ib,T176,xs176,s176,bj,hxl,(by have h9:=lx;rw[show k=xs176.length from by omega]at h9;exact h9),ia⟩)⟩))
end
section
set_option maxHeartbeats 4000000
set_option maxRecDepth 100000
attribute [local irreducible] LW
theorem Xx {p:Prop}(h:p:=by unfold E8 Hm;first|(simp[*];done)|(simp[*];omega)|(simp_all;done)|(simp_all;omega)):p:=h
theorem MM (w:World)(a:Int)(b:Int)(_ha:BC a)(_hb:BC b)  :
  Calls Tryz.prog 178 #[.int .i64 a,.int .i64 b] w (fun e w'=>e=.returned (.bool (E8 a b))∧w'=w):=by
 refine At [.int .i64 a,.int .i64 b] 12 Tryz.func178 Z Z sM ?_
 have a0:w=w:=rfl
 refine A0 (Ad _ [0] Z (Ae 1 Z (A0 (Ad _ [0,0,0,0,0,0,0,0] Z (Af 1 Z (AD 72 [] [] [(.int .i64 a),(.int .i64 ((1:Nat):Int)),(.int .i64 ((6:Nat):Int))] Z Z KD Ac (.bool (decide (((1:Nat):Int)≤a) && decide (a≤((6:Nat):Int)))) (fun wq=>BD wq _ _ _ _ha oM oM) (Af 1 Z ?_)))))))
 cases a1:(decide (((1:Nat):Int)≤a) && decide (a≤((6:Nat):Int)))
 ·exact Ae 5 Z (A3 (Ag [4] Z (.bool false) Z ⟨(AG Xx),a0⟩))
 ·exact Af 2 Z (AA (decide (b=a)) Z Z Z (Al (e:=7) Z Z Z) (Ae 2 Z (A3 (Ag [4] Z (.bool (decide (b=a))) Z ⟨(AG Xx),a0⟩))))
theorem P6 (w:World)(dp:Nat)(vp:Value)(p:List Fn)(f:Int)(hp:RP [] dp w.heap vp p)(_hf:BC f)(hz:Tq p) :
  Calls Tryz.prog 126 #[(.agg #[vp]),.int .i64 f] w (fun e w'=>e=.returned (.int .i64 (HZ p f E8))∧Az w w'):=by
 refine At [(.agg #[vp]),.int .i64 f] 8 Tryz.func126 Z Z sM ?_
 have a4:Az w w:=Az.refl w
 have hl_vp:=hp.lenle
 unfold maxLen at hl_vp
 refine A0 (Ad _ [3,0] Z (Bx (cs:=#[vp]) Z Ac fun w1 a2 a9 a0=>?_))
 have a5:=a2.size
 have a3:=a4.trans a2
 replace a0:BX w1.heap w.heap.size [vp]:=a0
 refine Ae 1 Z (A0 (Ad _ [2,0,3,0] Z (AR (p:=(.pointer (some ⟨w.heap.size,0,none⟩))) (.inr Z) [vp] EB Z (fun wq9 a6=>LD.of_box (BX.ext (w:=w1) a0 a6)) Z Ac (Af 1 Z (Ap 177 [] [] [(.agg #[vp]),(.int .i64 f),(.func (.func 178) #[] #[])] Z Z gP Ac (L7 _ dp vp (p) _ 178 [] [] E8 (hp.ext (Am (AB dp)) a3) _hf gQ (fun a b w1 ha hb=>MM w1 a b ha hb) (by exact hz)) ?_)))))
 rintro e2 w2 ⟨rfl,a1⟩
 refine⟨_,rfl,a1,?_⟩
 have a7:=a1.size
 have a8:=a3.trans a1
 exact Ae 1 Z (A3 (Ag [4] Z (.int .i64 (HZ p f E8)) Z ⟨rfl,a8⟩))
theorem No (w:World)(vy:Value)(y:List (List Int))(va:Value)(a:List (List (List Int)))(vb:Value)(b:List (List Int))(hy:Rd (B3 (B3 rI)) w.heap vy y)(ha:Rd (B3 (B3 (B3 rI))) w.heap va a)(hb:Rd (B3 (B3 rI)) w.heap vb b)(hP:∃N,HV a b N∧Bt N y∧y.length=a.length) :
  Calls Tryz.prog 133 #[vy,va,vb] w (fun e w'=>∃v0:Value,e=.returned (.tuple #[v0,.bool ((D5 a b).isSome)])∧Az w w'∧Fr (AS (AS rI 2) 27) w.heap.size w'.heap.size w'.heap v0 (jV y a b)):=by
 refine At [vy,va,vb] 40 Tryz.func133 Z Z sM ?_
 have ah:Az w w:=Az.refl w
 have hl_vy:=hy.lenle
 have hl_va:=ha.lenle
 have hl_vb:=hb.lenle
 obtain⟨N,hP,hsy,hyl⟩:=hP
 have h6:=hP.n6
 have hbl:=hP.bl
 have b6:=hP.n1
 have b7:=hP.n13
 refine A0 (Ad _ [0,0] Z (Ae 2 Z (A0 (Ad _ [0,0,3,0,0,0,0,0] Z (Af 2 Z (Ap 129 [] [] [va,vb] Z Z aB Ac (IU _ _ _ _ _ (ha.ext g3 ah) (hb.ext g2 ah) oM (by exact hbl) (by exact hP.row) (by exact⟨N,b6,by omega,hP.sh⟩)) ?_))))))
 rintro e1 w1 ⟨a0,rfl,ai,a8⟩
 refine⟨_,rfl,ai,?_⟩
 have b8:=ai.size
 have aj:=ah.trans ai
 refine Af 1 Z (B2 (vs:=[a0,(.bool ((D5 a b).isSome))]) a0 Z Z Ac (B2 (vs:=[a0,(.bool ((D5 a b).isSome))]) (.bool ((D5 a b).isSome)) Z Z Ac (Ae 2 Z (A0 (A0 (Ad _ [0,0] Z (Af 1 Z (Bn (!((D5 a b).isSome)) Z Z Ac (Ah ?_)))))))))
 cases ar:(!((D5 a b).isSome))
 ·refine Aj (by first|rfl|(show Value.bool _=_;rw[ar])) (A4 (A0 (Ad _ [3,0] Z ?_)))
  have hjo:(D5 a b).isSome=true:=by simpa using ‹(!(D5 a b).isSome)=false›
  have hss:=PI hP (dS hjo)
  refine BI (AS rI 2) o1 Bi AX Ac fun v3 w3 ak b9 au=>?_
  have al:=ak.size
  have av:=aj.trans ak
  have a1:=a8.ext (o2) ak
  refine Ae 1 Z (A0 (A0 (Ad _ [0,0,0] Z (Af 1 Z (AJ (v:=vy) Bi Z hy.isSl Ac (Ae 1 Z (A5 ?_)))))))
  refine AN (S:=Nat×Value) (fun⟨k,vo⟩=>([(10,vo),(24,(.int .i64 ((k:Nat):Int))),(8,a0),(22,vy),(23,(.int .i64 ((y.length:Nat):Int)))])) (fun⟨k,vo⟩ W=>Az w W∧Fr (AS (AS rI 2) 27) w1.heap.size W.heap.size W.heap vo ((VQ a y b).take k)∧Fr (AS (AS rI 2) 27) w.heap.size w1.heap.size W.heap a0 (FF a b)∧k≤y.length∧w1.heap.size≤W.heap.size) (fun⟨k,vo⟩=>y.length-k) (0,v3) ⟨rfl,rfl,rfl,rfl,rfl,trivial⟩ ⟨av,au.up o2,a1,sD,oM⟩ ?_
  clear ah a8 ai au b9 ak al av a1
  rintro⟨k,vo⟩ ρ4 w4 ⟨ac,a9,a2,aw,ba⟩
  have bb:w.heap.size≤w4.heap.size:=ac.size
  refine A0 (Ad _ [0] Z ?_)
  by_cases ax:((k:Nat):Int)<((y.length:Nat):Int)
  ·refine Ax true Z Z (A7 ax) Ac (Ah (A0 (Ai Z (A4 (A0 (A5 (A0 (Ad _ [0,0,2,0,0] Z (Af 1 Z (Au (v:=vy) k Bi AX Z Z hy.isSl Z sD Ac ?_))))))))))
   obtain⟨ay,bc,az⟩:=hy.get (k:=k) [] sD
   have bd:=az.lenle
   refine Ak (p:=Aw vy k 1) (.inr Z) ay B6 Z (AP ac bc) Ac (Ae 2 Z (Ad _ [0,0,0,0,0,2,3,3,4,0] Z ?_))
   have hyk:=hsy k oM
   have hsk:=hss.2 k oM
   have be:=hyk.1
   have bf:=hsk.1
   refine Af 4 Z (Au (v:=a0) k Bi AX Z Z a2.isSl Z sD Ac ?_)
   obtain⟨b0,b1,b2⟩:=a2.rd2.get (k:=k) [] sD
   have bg:=b2.lenle
   refine Ak (p:=Aw a0 k 1) (.inr Z) b0 B6 Z b1 Ac (Ap 132 [] [] [ay,b0] Z Z SF Ac (Eu _ _ _ _ _ (az.ext g1 ac) b2 oM oM oM (by exact hyk.2) (by exact hsk.2)) ?_)
   rintro e9 w9 ⟨am,rfl,ab,ad⟩
   refine⟨_,rfl,ab,?_⟩
   have bh:=ab.size
   have bi:=ac.trans ab
   have a6:=a9.ext (o2) ab
   have a7:=a2.ext (o2) ab
   have ae:=AP ab b1
   refine Bq (u:=am) (B:=w4.heap.size) o1 Bi AX Z Z ad (by first|exact A9 _|omega) Ac fun v11 w11 a3 bj an=>?_
   have b3:=a3.size
   have af:=bi.trans a3
   have a4:=a6.ext (o2) a3
   have a5:=a7.ext (o2) a3
   have b4:=AP a3 ae
   refine Ej o1 (v:=vo) (a:=v11) Bi AX Z Z Z a4 oM an oM oM sD (by unfold maxLen;first|omega|assumption|(simp;done)|(simp;omega)) Ac fun v13 w13 F13 aa ag ao=>?_
   have ap:Az w w13:=aa.below af (fun c hc=>Aa aj.size (ag c hc).1) af.size
   have b5:w11.heap.size≤w13.heap.size:=aa.size
   have aq:=a5.chg (o2) aa (fun c hc=>by have:=ag c hc;omega)
   refine Ae 1 Z (Ad _ [0,0] Z (AI ((k+1:Nat):Int) Z Z (B8 oM sD) Ac (Ae 1 Z ?_)))
   exact⟨((k+1),v13),_,rfl,⟨rfl,rfl,rfl,rfl,rfl,trivial⟩,⟨ap,(by rw[Cr [] (by rw[JZ];omega),QV oM];exact ao.up o2),aq,sD,oM⟩,by first|omega|(dsimp only;omega)⟩
  ·exact Ax false Z Z (A8 ax) Ac (Ah (A0 (Aj Z (A6 (As (As (An (A0 (Ad _ [0,0,0] Z (Ae 3 Z (A3 (Ag [6,7] Z (.tuple #[vo,(.bool true)]) Z ⟨vo,(by rw[hjo]),ac,(by have h:=(a9.up o2).low aj.size;rw[ZQ hjo];rwa [List.take_of_length_le (by rw[JZ];omega)]at h)⟩))))))))))))
 ·refine Ai (by first|rfl|(show Value.bool _=_;rw[ar])) (A0 (Ad _ [0,0] Z (Ae 2 Z (A3 (Aq ?_)))))
  have hjo:(D5 a b).isSome=false:=by simpa using ‹(!(D5 a b).isSome)=true›
  exact Ag [6,7] Z (.tuple #[(.slice none 0 0),(.bool false)]) Z ⟨(.slice none 0 0),(by rw[hjo]),aj,(by rw[fF hjo];exact LJ _ _ _)⟩
theorem ED {p:Prop}(h:p:=by first|omega|assumption|(simp only[List.length_nil,List.length_cons,List.length_append,List.length_set,List.length_replicate,FI];omega)|(simp[List.length_nil,List.length_cons,List.length_append,List.length_set,List.length_replicate,FI];done)|(simp[List.length_nil,List.length_cons,List.length_append,List.length_set,List.length_replicate,FI];omega)):p:=h
theorem SX {p:Prop}(h:p:=by rw[IR (by rw[hcf];decide)];exact LJ _ _ _):p:=h
theorem Gf (w:World)(dp:Nat)(vp:Value)(p:List Fn)(f:Int)(va:Value)(a:List Int)(vd:Value)(d:List Int)(order:Int)(hp:RP [] dp w.heap vp p)(_hf:BC f)(ha:Rd (B3 rI) w.heap va a)(hd:Rd (B3 rI) w.heap vd d)(_horder:BC order)(hz:Tq p) :
  Calls Tryz.prog 50 #[(.agg #[vp]),.int .i64 f,va,vd,.int .i64 order] w (fun e w'=>∃v0:Value,e=.returned (.tuple #[v0,.int .i64 (N4 p f a d order)])∧Az w w'∧Fr (AS (AS rI 2) 27) w.heap.size w'.heap.size w'.heap v0 (HJ p f a d order)):=by
 refine At [(.agg #[vp]),.int .i64 f,va,vd,.int .i64 order] 149 Tryz.func50 Z Z sM ?_
 have ia:Az w w:=Az.refl w
 have hl_vp:=hp.lenle
 unfold maxLen at hl_vp
 have hl_va:=ha.lenle
 have hl_vd:=hd.lenle
 refine A0 (Ad _ [3,0,0] Z (Bx (cs:=#[vp]) Z Ac fun w1 g0 j7 ex=>?_))
 have g3:=g0.size
 have g4:=ia.trans g0
 replace ex:BX w1.heap w.heap.size [vp]:=ex
 refine Ae 2 Z (A0 (Ad _ [2,0,3,0] Z (AR (p:=(.pointer (some ⟨w.heap.size,0,none⟩))) (.inr Z) [vp] EB Z (fun wq9 d4=>LD.of_box (BX.ext (w:=w1) ex d4)) Z Ac (Af 1 Z (Ap 126 [] [] [(.agg #[vp]),(.int .i64 f)] Z Z fX Ac (P6 _ dp vp (p) _ (hp.ext (Am (AB dp)) g4) _hf (by exact hz)) ?_)))))
 rintro e2 w2 ⟨rfl,d5⟩
 refine⟨_,rfl,d5,?_⟩
 have g5:=d5.size
 have d2:=g4.trans d5
 have ce:=ex.ext d5
 refine Ae 1 Z (A0 (A0 (Ad _ [0,0,0,0,0,2,0,0,0,2,3,0,0,0,0,2,0,0,0,2,3,0,0,0,0,3,0,0,0] Z (Af 1 Z ?_))))
 by_cases g6:HZ p f E8=((0:Nat):Int)
 ·refine AA true Z Z (A7 g6) Ac (Af 2 Z ?_)
  have j8:=ZR (p:=p) (f:=f) oM
  refine Ao (p:=(.pointer (some ⟨w.heap.size,0,none⟩))) (b:=w.heap.size) (o:=0) 0 BM Z Z (Al (e:=30) Z Z Z) (Ak (p:=(Ay (.pointer (some ⟨w.heap.size,0,none⟩)) 0)) (.inr Z) vp Cs Z (ce.ldp (i:=0) sM) (Al (e:=30) Z Z Z) (Af 1 Z (Au (v:=vp) ((f).toNat) Gm CA Z Z hp.isSl oM ED (Al (e:=30) Z Z Z) ?_)))
  obtain⟨cs4,j9,ey⟩:=hp.get (AB dp) Fn.zero (k:=((f).toNat)) ED
  obtain⟨js,rfl,g7⟩:=RF.of j9
  have d6:=g7.rn.lenle
  unfold maxLen at d6
  refine AM (p:=Aw vp ((f).toNat) 3) 1 Cw Z (ey _ (AE.of_ext [] d2)) (Al (e:=30) Z Z Z) (Ak (p:=(Ay (Aw vp ((f).toNat) 3) 1)) (.inr Z) (.int .i64 ((p.getD ((f).toNat) Fn.zero).params)) AH Z ((ey _ (AE.of_ext [] d2)).ld (i:=1) (by simp[FL,FM])) (Al (e:=30) Z Z Z) (Ap 97 [] [] [va,(.int .i64 ((p.getD ((f).toNat) Fn.zero).params))] Z Z eI (Al (e:=30) Z Z Z) (Er _ _ _ _ (ha.ext g1 d2) g7.rng) ?_))
  rintro e5 w5 ⟨rfl,d7⟩
  refine⟨_,rfl,d7,?_⟩
  have g8:=d7.size
  have d3:=d2.trans d7
  have cf:=ce.ext d7
  refine Bn (!(decide (((a.length:Nat):Int)=((p.getD ((f).toNat) Fn.zero).params)) && B7 a)) Z Z (Al (e:=30) Z Z Z) (Af 1 Z ?_)
  cases ja:(!(decide (((a.length:Nat):Int)=((p.getD ((f).toNat) Fn.zero).params)) && B7 a))
  ·refine Af 1 Z (Ao (p:=(.pointer (some ⟨w.heap.size,0,none⟩))) (b:=w.heap.size) (o:=0) 0 BM Z Z (Al (e:=40) Z Z Z) (Ak (p:=(Ay (.pointer (some ⟨w.heap.size,0,none⟩)) 0)) (.inr Z) vp Cs Z (cf.ldp (i:=0) sM) (Al (e:=40) Z Z Z) (Af 1 Z (Au (v:=vp) ((f).toNat) Gm CA Z Z hp.isSl oM ED (Al (e:=40) Z Z Z) ?_))))
   refine AM (p:=Aw vp ((f).toNat) 3) 1 Cw Z (ey _ (AE.of_ext [] d3)) (Al (e:=40) Z Z Z) (Ak (p:=(Ay (Aw vp ((f).toNat) 3) 1)) (.inr Z) (.int .i64 ((p.getD ((f).toNat) Fn.zero).params)) AH Z ((ey _ (AE.of_ext [] d3)).ld (i:=1) (by simp[FL,FM])) (Al (e:=40) Z Z Z) (Ap 97 [] [] [vd,(.int .i64 ((p.getD ((f).toNat) Fn.zero).params))] Z Z eI (Al (e:=40) Z Z Z) (Er _ _ _ _ (hd.ext g1 d3) g7.rng) ?_))
   rintro e7 w7 ⟨rfl,d8⟩
   refine⟨_,rfl,d8,?_⟩
   have g9:=d8.size
   have ga:=d3.trans d8
   have d9:=cf.ext d8
   refine Bn (!(decide (((d.length:Nat):Int)=((p.getD ((f).toNat) Fn.zero).params)) && B7 d)) Z Z (Al (e:=40) Z Z Z) (Af 2 Z ?_)
   cases jt:(!(decide (((d.length:Nat):Int)=((p.getD ((f).toNat) Fn.zero).params)) && B7 d))
   ·refine Af 1 Z (Ap 127 [] [] [(.int .i64 order)] Z Z fY (Al (e:=51) Z Z Z) (MA _ _ _horder) ?_)
    rintro e9 w9 ⟨rfl,da⟩
    refine⟨_,rfl,da,?_⟩
    have gb:=da.size
    have ez:=ga.trans da
    have cg:=d9.ext da
    refine Bn (!(decide (((0:Nat):Int)≤order) && decide (order≤((12:Nat):Int)))) Z Z (Al (e:=51) Z Z Z) (Ae 2 Z ?_)
    cases db:(!(decide (((0:Nat):Int)≤order) && decide (order≤((12:Nat):Int))))
    ·refine Aj (by first|rfl|(show Value.bool _=_;rw[db])) (A4 (A0 (A0 (Ad _ [0,0] Z (Af 1 Z ?_)))))
     have gc:¬(HZ p f E8≠((0:Nat):Int)):=oM
     refine AZ false Z Z (A8 gc) Ac (Ah (Aj Z (A4 (A0 (AY _ [1,0,0,3,3,0,0,0,0,0,0,0] mixed (by kernel_rfl) ?_)))))
     have dc:IQ p f a d order=0:=ZU oM (Ez ‹(!(decide (((a.length:Nat):Int)=(p.getD f.toNat Fn.zero).params) && B7 a))=false›) (Ez ‹(!(decide (((d.length:Nat):Int)=(p.getD f.toNat Fn.zero).params) && B7 d))=false›) (show Hm order 0 12=true from Ez ‹(!(decide (((0:Nat):Int)≤order) && decide (order≤((12:Nat):Int))))=false›)
     have hKP:=VW dc
     have hIp:=hKP.1
     have ja:=hIp.b
     have hpl:=hIp.l
     have hdl:=hIp.dl
     clear j8
     refine AR (p:=(.pointer (some ⟨w.heap.size,0,none⟩))) (.inl Z) [vp] EB Z (fun wq9 d4=>LD.of_box (BX.ext (w:=w9.drew) cg d4)) Z Ac (Af 2 Z (Ap 98 [] [] [va] Z Z kV Ac (MB _ _ _ (ha.ext g1 ez.drew) ED) ?_))
     rintro e12 w12 ⟨ch,rfl,av,a1⟩
     refine⟨_,rfl,av,?_⟩
     replace av:=av.of_drew
     have dd:=av.size
     have cp:=ez.trans av
     have cq:=cg.ext av
     replace a1:=a1.low (B':=w9.heap.size) (A9 _)
     refine Ap 128 [] [] [(.agg #[vp]),(.int .i64 f),ch] Z Z aA Ac (EC _ dp vp (p) (f) 1 ch (Cq a) (hp.ext (Am (AB dp)) cp) _hf (RN.of_fr2 a1 (fun b hb=>absurd hb List.not_mem_nil)) a1.cap (by exact hKP.2.1) (by exact hz) oM (by rw[PE];exact hpl) oM (by exact DW hIp.n) (by rw[PE];omega)) ?_
     rintro e13 w13 ⟨lv13,lu13,lc13,rfl,b6,de,ib,ci⟩
     refine⟨_,rfl,b6,?_⟩
     have df:=b6.size
     have cr:=cp.trans b6
     have ct:=cq.ext b6
     have a6:=a1.ext (o2) b6
     have dg:lc13=FG p f.toNat a:=de
     refine Af 1 Z (B2 (vs:=[lv13,lu13,(.int .i64 lc13)]) lv13 Z Z Ac (B2 (vs:=[lv13,lu13,(.int .i64 lc13)]) lu13 Z Z Ac (B2 (vs:=[lv13,lu13,(.int .i64 lc13)]) (.int .i64 lc13) Z Z Ac (Ae 3 Z (A0 (A0 (Ad _ [0,0] Z (Af 1 Z ?_))))))))
     by_cases dh:lc13≠((0:Nat):Int)
     ·refine AZ true Z Z (A7 dh) Ac (Ah (Ai Z (A0 (Ad _ [0,0,0] Z (Ae 3 Z (A3 (Aq ?_)))))))
      have hcn:FG p f.toNat a≠0:=by omega
      exact Ag [10,11] Z (.tuple #[(.slice none 0 0),(.int .i64 lc13)]) Z ⟨(.slice none 0 0),(by rw[Q7 dc hcn,← ‹_=FG p f.toNat a›]),cr,(by rw[IR (by rw[Q7 dc hcn];exact hcn)];exact LJ _ _ _)⟩
     ·refine AZ false Z Z (A8 dh) Ac (Ah (Aj Z (A4 (A0 (A0 (Ad _ [0,0,3,0,0,0,0,0] Z ?_))))))
      obtain⟨gd,jb,T13,xs13,s13,di,dj,ge,jc⟩:=ci oM
      clear ci dj
      have an:=hIp.rc (Dw a) di
      have gf:Bt 1 (Cq a):=DW hIp.n
      have ic:FG p f.toNat a=0:=by omega
      have hvl:=OO hIp an (A9 1) gf (Dw a)
      have cj:=QZ hIp an oM gf (Dw a) hvl.1 hvl.2.1
      have ck:=VU hIp an oM gf (Dw a) hvl.1 hvl.2.1
      have hnx:=OQ hIp an
      have hsP:=cj.1
      clear cj
      have cl:=gd.rd
      have dk:=ge.rd3
      refine Af 2 Z (Ap 129 [] [] [lu13,lv13] Z Z aB Ac (IU _ _ _ _ _ dk cl (by have:=hsP.n6;omega) (by exact hsP.bl) (by exact hsP.row) (by exact⟨1,by omega,by omega,hsP.sh⟩)) ?_)
      rintro e15 w15 ⟨bv,rfl,aw,bw⟩
      refine⟨_,rfl,aw,?_⟩
      have dm:=aw.size
      have cu:=cr.trans aw
      have cv:=ct.ext aw
      have a7:=a6.ext (o2) aw
      have bx:=cl.ext g2 aw
      refine Af 1 Z (B2 (vs:=[bv,(.bool ((D5 (IB 1 T13 xs13 (Cq a) xs13.length) (Dr p 1 f.toNat (Cq a))).isSome))]) bv Z Z Ac (B2 (vs:=[bv,(.bool ((D5 (IB 1 T13 xs13 (Cq a) xs13.length) (Dr p 1 f.toNat (Cq a))).isSome))]) (.bool ((D5 (IB 1 T13 xs13 (Cq a) xs13.length) (Dr p 1 f.toNat (Cq a))).isSome)) Z Z Ac (Ae 2 Z (A0 (Ad _ [0,0] Z (Af 1 Z (Bn (!((D5 (IB 1 T13 xs13 (Cq a) xs13.length) (Dr p 1 f.toNat (Cq a))).isSome)) Z Z Ac (Ah ?_))))))))
      cases dq:(!((D5 (IB 1 T13 xs13 (Cq a) xs13.length) (Dr p 1 f.toNat (Cq a))).isSome))
      ·refine Aj (by first|rfl|(show Value.bool _=_;rw[dq])) (A4 (A0 (Ad _ [0,3,0,3,0] Z ?_)))
       have hdt:Ed (Gi p f.toNat a a.length)≠0:=fK (by rw[← ck];assumption)
       have hini:=YT (d:=d) (o:=order.toNat) (m:=(order.toNat+1)) hIp hdt an Z
       refine Af 1 Z (Ap 99 [] [] [lv13] Z Z eJ Ac (GH _ _ _ bx oM (by intro k hk;have:=(hvl.2.1 k hk).1;omega)) ?_)
       rintro e17 w17 ⟨dr,rfl,ax,ay⟩
       refine⟨_,rfl,ax,?_⟩
       have id:=ax.size
       have ds:=cu.trans ax
       have cw:=cv.ext ax
       have a8:=a7.ext (o2) ax
       have a9:=bw.ext (o2) ax
       refine Af 1 Z (Ap 130 [] [] [dr,(.int .i64 order)] Z Z aC Ac (HL _ _ _ _ ay.rd1 _horder (by have:=hnx.1;show(FA p f.toNat a).length≤_;omega) oM) ?_)
       rintro e18 w18 ⟨a0,rfl,ao,bz⟩
       refine⟨_,rfl,ao,?_⟩
       have dt:=ao.size
       have du:=ds.trans ao
       have cx:=cw.ext ao
       have b7:=a8.ext (o2) ao
       have b8:=a9.ext (o2) ao
       have b9:=ay.ext (o1) ao
       refine Ae 1 Z (A0 (A0 (Ad _ [0,0,0] Z ?_)))
       have gg:((FA p f.toNat a).map (fun x=>(List.replicate (order.toNat+1) 0).set 0 x)).length=a.length:=by rw[List.length_map];exact hnx.1
       have c7:=bz
       rw[show((Dr p 1 f.toNat (Cq a)).map (fun s=>s.getD 0 0))=FA p f.toNat a from rfl]at c7
       refine Af 1 Z (AJ (v:=a0) Bi Z c7.isSl Ac (Ae 1 Z (A5 ?_)))
       refine AN (S:=Nat) (fun k=>([(86,(.int .i64 ((k:Nat):Int))),(1,(.int .i64 f)),(2,va),(3,vd),(4,(.int .i64 order)),(5,(.pointer (some ⟨w.heap.size,0,none⟩))),(17,a0),(84,a0),(85,(.int .i64 ((((FA p f.toNat a).map (fun x=>(List.replicate (order.toNat+1) 0).set 0 x)).length:Nat):Int)))])) (fun k W=>Az w W∧Fr (AS (AS rI 2) 27) w17.heap.size W.heap.size W.heap a0 (Cn k (J9 p f.toNat order.toNat a d) ((FA p f.toNat a).map (fun x=>(List.replicate (order.toNat+1) 0).set 0 x)))∧BX W.heap w.heap.size [vp]∧k≤a.length∧w.heap.size<w17.heap.size∧w17.heap.size≤W.heap.size) (fun k=>a.length-k) 0 ⟨rfl,rfl,rfl,rfl,rfl,rfl,rfl,rfl,rfl,trivial⟩ ⟨du,(by rw[C9];exact c7.up o2),cx,oM,oM,oM⟩ ?_
       clear ia j7 g0 g3 g4 d5 g5 d2 d6 d7 g8 d3 d8 g9 ga da gb ez a1 av dd cp b6 df cr a6 dg bw aw dm cu a7 ay ax a8 a9 bz ao dt du b7 b8 b9 c7
       rintro k ρ20 w20 ⟨az,a2,ai,gh,ie,ig⟩
       have dv:w.heap.size≤w20.heap.size:=az.size
       have hml:=dU (p:=p) (f:=f.toNat) (o:=order.toNat) (d:=d) (k:=k) hnx.1
       have jd:=ai.lt
       refine A0 (Ad _ [0] Z ?_)
       by_cases dw:((k:Nat):Int)<((((FA p f.toNat a).map (fun x=>(List.replicate (order.toNat+1) 0).set 0 x)).length:Nat):Int)
       ·refine Ax true Z Z (A7 dw) Ac (Ah (A0 (Ai Z (A4 (A0 (A5 (A0 (Ad _ [0,0,2,0,0] Z (Af 1 Z (Au (v:=a0) k Bi AX Z Z a2.isSl Z ED Ac ?_))))))))))
        obtain⟨dx,dy,dz⟩:=a2.rd2.get (k:=k) [] ED
        have ih:=dz.lenle
        refine Ak (p:=Aw a0 k 1) (.inr Z) dx B6 Z dy Ac (Ae 2 Z (AY _ [0,0,0,0,3,0,0,0,1,3,3,0,4] mixed (by kernel_rfl) ?_))
        have hdk:=Ba hIp.dn k
        have hrw:=VV (p:=p) (f:=f.toNat) (o:=order.toNat) (d:=d) (k:=k) hnx.1 oM
        have hcs:Bs (order.toNat+1) (cst (order.toNat+1) ((FA p f.toNat a).getD k 0)):=DE (C3.2 (Ba hnx.2 k))
        rw[← hrw]at hcs
        have je:=hcs.1
        have htm:=St (order.toNat+1)
        have html:((List.replicate (order.toNat+1) (0:Int)).set 1 1).length=(order.toNat+1):=by simp
        refine Af 4 Z (Ap 131 [] [] [(.int .i64 order)] Z Z fZ Ac (K6 _ _ _horder oM) ?_)
        rintro e25 w25 ⟨e0,rfl,aj,ak⟩
        refine⟨_,rfl,aj,?_⟩
        replace aj:=aj.of_drew
        have ii:=aj.size
        have gi:=az.trans aj
        have ba:=a2.ext (o2) aj
        have bb:=ai.ext aj
        have c8:=dz.ext g1 aj
        have e1:=AP aj dy
        replace ak:=ak.low (B':=w20.heap.size) (A9 _)
        refine Af 2 Z (Au (v:=vd) k Bh BA Z Z hd.isSl Z ED Ac ?_)
        refine Ak (p:=Aw vd k 1) (.inl Z) (.int .i64 (d.getD k 0)) AH Z (AP az.drew (hd.getI ED).1) Ac ?_
        refine Ap 103 [] [] [e0,(.int .i64 (d.getD k 0))] Z Z O2 Ac (De _ _ _ _ ak.rd1 (hd.getI ED).2 oM (by exact htm.2) (by exact hdk)) ?_
        rintro e27 w27 ⟨e3,rfl,ap,c0⟩
        refine⟨_,rfl,ap,?_⟩
        have ij:=ap.size
        have gj:=gi.trans ap
        have bc:=ba.ext (o2) ap
        have bd:=bb.ext ap
        have c9:=c8.ext g1 ap
        have e4:=AP ap e1
        have be:=ak.ext (o1) ap
        refine Ap 102 [] [] [dx,e3] Z Z Qa Ac (Et _ _ _ _ _ c9 c0.rd1 oM (by rw[FZ];omega) (by exact hcs.2) (by exact Em _ _)) ?_
        rintro e29 w29 ⟨e6,rfl,aq,cy⟩
        refine⟨_,rfl,aq,?_⟩
        have ik:=aq.size
        have e8:=gj.trans aq
        have aa:=bc.ext (o2) aq
        have bf:=bd.ext aq
        have il:=AP aq e4
        have bg:=be.ext (o1) aq
        have bh:=c0.ext (o1) aq
        refine Au (v:=a0) k Bi AX Z Z aa.isSl Z ED Ac ?_
        refine bH o1 (v:=a0) (u:=e6) (w:=w29) Ja Z Z aa cy oM oM ED Ac fun w31 F31 c1 jf ca gk=>?_
        have gl:Az w w31:=c1.below e8 (fun c hc=>Aa ds.size (ca c hc).1) e8.size
        have im:w29.heap.size≤w31.heap.size:=c1.size
        have gm:=bf.chg c1 (fun hm=>by have:=ca _ hm;omega)
        have jg:=bg.chg (o1) c1 (fun c hc=>by have:=ca c hc;omega)
        have jh:=bh.chg (o1) c1 (fun c hc=>by have:=ca c hc;omega)
        exact Ah (Ad _ [0,0] Z (AI ((k+1:Nat):Int) Z Z (B8 oM ED) Ac (Ae 1 Z ⟨(k+1),_,rfl,⟨rfl,rfl,rfl,rfl,rfl,rfl,rfl,rfl,rfl,trivial⟩,⟨gl,(by rw[← YP hnx.1 oM];exact gk.up o2),gm,oM,oM,oM⟩,by first|omega|(dsimp only;omega)⟩)))
       ·refine Ax false Z Z (A8 dw) Ac (Ah (A0 (Aj Z (A6 (As (As (An (A0 (Ad _ [0,0,3,0] Z ?_)))))))))
        have cb:=a2
        rw[dV hnx.1 oM]at cb
        obtain⟨BL,hBL⟩:∃b:Nat,b=w20.heap.size:=⟨_,rfl⟩
        rw[← hBL]at cb
        clear hml gg g6
        refine Af 2 Z (Ap 130 [] [] [va,(.int .i64 order)] Z Z aC Ac (HL _ _ _ _ (ha.ext g1 az) _horder oM oM) ?_)
        rintro e35 w35 ⟨ea,rfl,bi,c2⟩
        refine⟨_,rfl,bi,?_⟩
        have eb:=bi.size
        have ec:=az.trans bi
        have b3:=cb.ext (o2) bi
        have ab:=ai.ext bi
        refine Ae 1 Z (A0 (A0 (Ad _ [0] Z (Ae 1 Z (A5 ?_)))))
        refine AN (S:=Nat×Value×List (List Int)) (fun⟨r,vyy,ys⟩=>([(20,vyy),(21,(.int .i64 ((r:Nat):Int))),(1,(.int .i64 f)),(4,(.int .i64 order)),(5,(.pointer (some ⟨w.heap.size,0,none⟩))),(17,a0)])) (fun⟨r,vyy,ys⟩ W=>Az w W∧Fr (AS (AS rI 2) 27) w.heap.size W.heap.size W.heap vyy ys∧Fr (AS (AS rI 2) 27) w17.heap.size BL W.heap a0 (J9 p f.toNat order.toNat a d)∧BX W.heap w.heap.size [vp]∧BL≤W.heap.size∧1≤r∧r≤24∧Bt (order.toNat+1) ys∧BZ ys=a∧(∀j,j<a.length→Lo (min r (order.toNat+1)) (Bv ys (K9 p f.toNat a d order.toNat order.toNat) j))) (fun⟨r,vyy,ys⟩=>order.toNat+1-r) (1,ea,(a.map (fun x=>(List.replicate (order.toNat+1) 0).set 0 x))) ⟨rfl,rfl,rfl,rfl,rfl,rfl,trivial⟩ ⟨ec,(c2.up o2).low az.size,b3,ab,oM,oM,oM,(by exact hini.1),(by exact hini.2.1),(by exact hini.2.2)⟩ ?_
        clear ai a2 az dv cb c2 bi eb ec b3 ab
        rintro⟨r,vyy,ys⟩ ρ36 w36 ⟨cc,a3,c3,al,gn,go,gp,hys,hyf,hylo⟩
        have io:w.heap.size≤w36.heap.size:=cc.size
        have ji:=It hyf
        have jj:=al.lt
        refine A0 (A0 (Ad _ [0,0,0] Z (Af 2 Z ?_)))
        by_cases ed:((r:Nat):Int)≤order
        ·refine Ei true Z Z (A7 ed) Ac (Ah (Ai Z (A4 (A0 (A5 (A0 (Ad _ [2,0,0,3,0,0,0,0,0,0,0] Z (AR (p:=(.pointer (some ⟨w.heap.size,0,none⟩))) (.inr Z) [vp] EB Z (fun wq9 d4=>LD.of_box (BX.ext (w:=w36) al d4)) Z Ac (Af 2 Z (Ap 128 [] [] [(.agg #[vp]),(.int .i64 f),vyy] Z Z aA Ac (EC _ dp vp (p) (f) (order.toNat+1) vyy (ys) (hp.ext (Am (AB dp)) cc) _hf (RN.of_fr2 a3 (fun b hb=>absurd hb List.not_mem_nil)) a3.cap (by exact hKP.2.1) (by exact hz) oM oM oM (by exact hys) oM) ?_))))))))))
         rintro e39 w39 ⟨lv39,lu39,lc39,rfl,b0,ee,ip,cm⟩
         refine⟨_,rfl,b0,?_⟩
         have iq:=b0.size
         have ef:=cc.trans b0
         have ac:=a3.ext (o2) b0
         have ad:=c3.ext (o2) b0
         have ae:=al.ext b0
         have c4:=OO hIp an (m:=(order.toNat+1)) oM hys hyf
         have ir:lc39=0:=by rw[ee];exact c4.2.2
         refine Af 1 Z (B2 (vs:=[lv39,lu39,(.int .i64 lc39)]) lv39 Z Z Ac (B2 (vs:=[lv39,lu39,(.int .i64 lc39)]) lu39 Z Z Ac (B2 (vs:=[lv39,lu39,(.int .i64 lc39)]) (.int .i64 lc39) Z Z Ac (Ae 3 Z (A0 (A0 (Ad _ [0,0] Z (Af 1 Z ?_))))))))
         by_cases eg:lc39≠((0:Nat):Int)
         ·exact absurd eg oM
         ·refine AZ false Z Z (A8 eg) Ac (Ah (Aj Z (A4 (A0 (Ad _ [3,0] Z ?_)))))
          obtain⟨gd,jb,T39,xs39,s39,eh,ei,ge,jc⟩:=cm oM
          clear cm ei
          have hrcn:=hIp.rc hyf eh
          have hgs:=SB (l:=(J9 p f.toNat order.toNat a d)) c4.2.1
          have hgl:(OP (Dr p (order.toNat+1) f.toNat ys) (J9 p f.toNat order.toNat a d)).length=a.length:=by rw[FI];exact c4.1
          have is:=c4.1
          have hsysn:=QZ hIp hrcn (m:=(order.toNat+1)) oM hys hyf hgl hgs
          have hjorn:=VU hIp hrcn (m:=(order.toNat+1)) oM hys hyf hgl hgs
          rw[A8 hdt,Bool.not_false]at hjorn
          have hst:=YS hIp hrcn hdt (m:=(order.toNat+1)) Z oM hys hyf oM hylo
          rw[← ZQ hjorn]at hst
          have hPn:Hid (∃N,HV (IB (order.toNat+1) T39 xs39 ys xs39.length) (OP (Dr p (order.toNat+1) f.toNat ys) (J9 p f.toNat order.toNat a d)) N∧Bt N ys∧ys.length=(IB (order.toNat+1) T39 xs39 ys xs39.length).length):=Ds ⟨_,hsysn.1,hys,by rw[hsysn.2.2.1,hsysn.2.2.2]⟩
          clear hsysn hgl
          have hrtv:=gd.rt g2
          have hrtu:=ge.rt ZB
          refine BI (AS rI 2) o1 Bi AX Ac fun v41 w41 ar gq ej=>?_
          have ek:=ar.size
          have el:=ef.trans ar
          have af:=ac.ext (o2) ar
          have ag:=ad.ext (o2) ar
          have ah:=ae.ext ar
          have gr:=hrtv.ext g2 ar
          have jk:=hrtu.ext ZB ar
          refine Ae 1 Z (A0 (A0 (Ad _ [0,0,0] Z (Af 1 Z (AJ (v:=lv39) Bi Z gr.slL Ac (Ae 1 Z (A5 ?_)))))))
          refine AN (S:=Nat×Value) (fun⟨k,vg⟩=>([(22,vg),(126,(.int .i64 ((k:Nat):Int))),(1,(.int .i64 f)),(4,(.int .i64 order)),(5,(.pointer (some ⟨w.heap.size,0,none⟩))),(14,lu39),(17,a0),(20,vyy),(21,(.int .i64 ((r:Nat):Int))),(124,lv39),(125,(.int .i64 (((Dr p (order.toNat+1) f.toNat ys).length:Nat):Int)))])) (fun⟨k,vg⟩ W=>Az w W∧Fr (AS (AS rI 2) 27) w39.heap.size W.heap.size W.heap vg ((OP (Dr p (order.toNat+1) f.toNat ys) (J9 p f.toNat order.toNat a d)).take k)∧Fr (AS (AS rI 2) 27) w.heap.size w36.heap.size W.heap vyy ys∧Fr (AS (AS rI 2) 27) w17.heap.size BL W.heap a0 (J9 p f.toNat order.toNat a d)∧BX W.heap w.heap.size [vp]∧k≤a.length∧RT w39.heap.size (B3 (KC (B3 rI))) W.heap lu39 (IB (order.toNat+1) T39 xs39 ys xs39.length)∧w39.heap.size≤W.heap.size∧RT w39.heap.size (B3 (B3 rI)) W.heap lv39 (Dr p (order.toNat+1) f.toNat ys)∧w39.heap.size≤W.heap.size∧w.heap.size<w39.heap.size∧w39.heap.size≤w39.heap.size∧w39.heap.size≤w39.heap.size∧w39.heap.size≤W.heap.size) (fun⟨k,vg⟩=>a.length-k) (0,v41) ⟨rfl,rfl,rfl,rfl,rfl,rfl,rfl,rfl,rfl,rfl,rfl,trivial⟩ ⟨el,ej.up o2,af,ag,ah,oM,(by assumption),oM,(by assumption),oM,oM,oM,oM,oM⟩ ?_
          clear al c3 a3 b0 ac ad ae ej gq ar ek el af ag ah
          rintro⟨k,vg⟩ ρ51 w51 ⟨cd,c5,c6,am,b1,gs,cn,it,b4,iu,iv,iw,ix,iy⟩
          have iz:w.heap.size≤w51.heap.size:=cd.size
          have jl:=b1.lt
          refine A0 (Ad _ [0] Z ?_)
          by_cases em:((k:Nat):Int)<(((Dr p (order.toNat+1) f.toNat ys).length:Nat):Int)
          ·refine Ax true Z Z (A7 em) Ac (Ah (A0 (Ai Z (A4 (A0 (A5 (A0 (Ad _ [0,0,2,0,0] Z (Af 1 Z (Au (v:=lv39) k Bi AX Z Z b4.slL Z ED Ac ?_))))))))))
           obtain⟨en,gt,cz⟩:=RT.getL g1 [] (k:=k) b4 ED
           have eo:=cz.lenL
           unfold maxLen at eo
           refine Ak (p:=Aw lv39 k 1) (.inr Z) en B6 Z gt Ac (Ae 2 Z (Ad _ [0,0,0,0,0,2,3,3,4,0] Z ?_))
           have hvk:=c4.2.1 k oM
           have ep:=YQ (o:=order.toNat) hIp an k (by rw[YO];omega)
           have jm:=hvk.1
           have j0:=ep.1
           refine Af 4 Z (Au (v:=a0) k Bi AX Z Z am.isSl Z ED Ac ?_)
           obtain⟨eq,er,es⟩:=am.rd2.get (k:=k) [] ED
           have j1:=es.lenle
           refine Ak (p:=Aw a0 k 1) (.inr Z) eq B6 Z er Ac (Ap 132 [] [] [en,eq] Z Z SF Ac (Eu _ _ _ _ _ cz.rd es oM oM oM (by exact hvk.2) (by exact ep.2)) ?_)
           rintro e57 w57 ⟨et,rfl,a4,d0⟩
           refine⟨_,rfl,a4,?_⟩
           have j2:=a4.size
           have gu:=cd.trans a4
           have bj:=c5.ext (o2) a4
           have bk:=c6.ext (o2) a4
           have bm:=am.ext (o2) a4
           have bn:=b1.ext a4
           have eu:=AP a4 er
           have gv:=cn.ext ZB a4
           have gw:=b4.ext g2 a4
           have gx:=cz.ext g1 a4
           refine Bq (u:=et) (B:=w51.heap.size) o1 Bi AX Z Z d0 (by first|exact A9 _|omega) Ac fun v62 w62 a5 jn gy=>?_
           have j3:=a5.size
           have ev:=gu.trans a5
           have bo:=bj.ext (o2) a5
           have bp:=bk.ext (o2) a5
           have bq:=bm.ext (o2) a5
           have br:=bn.ext a5
           have j4:=AP a5 eu
           have gz:=gv.ext ZB a5
           have i0:=gw.ext g2 a5
           have i1:=gx.ext g1 a5
           refine Ej o1 (v:=vg) (a:=v62) Bi AX Z Z Z bo oM gy oM oM ED (by unfold maxLen;first|omega|assumption|(simp[FI];done)|(simp[FI];omega)) Ac fun v67 w67 F67 au b2 i2=>?_
           have i3:Az w w67:=au.below ev (fun c hc=>Aa ef.size (b2 c hc).1) ev.size
           have j5:w62.heap.size≤w67.heap.size:=au.size
           have jo:=gz.chg ZB au (fun c hc=>by have:=b2 c hc;omega)
           have jp:=i0.chg g2 au (fun c hc=>by have:=b2 c hc;omega)
           have jq:=i1.chg g1 au (fun c hc=>by have:=b2 c hc;omega)
           have i4:=bp.chg (o2) au (fun c hc=>by have:=b2 c hc;omega)
           have i5:=bq.chg (o2) au (fun c hc=>by have:=b2 c hc;omega)
           have i6:=br.chg au (fun hm=>by have:=b2 _ hm;omega)
           refine Ae 1 Z (Ad _ [0,0] Z (AI ((k+1:Nat):Int) Z Z (B8 oM ED) Ac (Ae 1 Z ?_)))
           exact⟨((k+1),v67),_,rfl,⟨rfl,rfl,rfl,rfl,rfl,rfl,rfl,rfl,rfl,rfl,rfl,trivial⟩,⟨i3,(by rw[Cr [] (by rw[FI];omega),dW oM];exact i2.up o2),i4,i5,i6,oM,(by assumption),oM,(by assumption),oM,oM,oM,oM,oM⟩,by first|omega|(dsimp only;omega)⟩
          ·refine Ax false Z Z (A8 em) Ac (Ah (A0 (Aj Z (A6 (As (As (An (Ad _ [0,0,0,3,0,0,0,0] Z ?_))))))))
           have ew:=c5
           rw[List.take_of_length_le (by rw[FI];omega)]at ew
           have i7:=(cn).rn.rd3
           refine Af 3 Z (Ap 133 [] [] [vyy,lu39,vg] Z Z gA Ac (No _ _ _ _ _ _ _ c6.rd2 i7 ew.rd2 (by exact hPn.out)) ?_)
           rintro e74 w74 ⟨b5,rfl,bs,d1⟩
           refine⟨_,rfl,bs,?_⟩
           have j6:=bs.size
           have i8:=cd.trans bs
           have bt:=am.ext (o2) bs
           have bu:=b1.ext bs
           have jr:=b4.ext g2 bs
           refine Af 1 Z (B2 (vs:=[b5,(.bool ((D5 (IB (order.toNat+1) T39 xs39 ys xs39.length) (OP (Dr p (order.toNat+1) f.toNat ys) (J9 p f.toNat order.toNat a d))).isSome))]) b5 Z Z Ac (B2 (vs:=[b5,(.bool ((D5 (IB (order.toNat+1) T39 xs39 ys xs39.length) (OP (Dr p (order.toNat+1) f.toNat ys) (J9 p f.toNat order.toNat a d))).isSome))]) (.bool ((D5 (IB (order.toNat+1) T39 xs39 ys xs39.length) (OP (Dr p (order.toNat+1) f.toNat ys) (J9 p f.toNat order.toNat a d))).isSome)) Z Z Ac (Ae 1 Z (Ad _ [0,0,0] Z (Af 1 Z (IM ((r*2:Nat):Int) Z Z (by rw[FR oM oM];omega) Ac (Ae 1 Z ?_)))))))
           exact⟨((r*2),b5,(jV ys (IB (order.toNat+1) T39 xs39 ys xs39.length) (OP (Dr p (order.toNat+1) f.toNat ys) (J9 p f.toNat order.toNat a d)))),_,rfl,⟨rfl,rfl,rfl,rfl,rfl,rfl,trivial⟩,⟨i8,(d1.up o2).low cd.size,bt,bu,oM,oM,oM,(by exact hst.1),(by exact hst.2.1),(by exact hst.2.2)⟩,by first|omega|(dsimp only;omega)⟩
        ·refine Ei false Z Z (A8 ed) Ac (Ah (Aj Z (A6 (As (As (An (A0 (Ad _ [0,0,0] Z (Ae 3 Z (A3 ?_))))))))))
         have hcf:=ZV dc ic hdt
         have hdn:=YU (o:=order.toNat) (m:=(order.toNat+1)) hIp hdt an Z hys hyf oM hylo
         exact Ag [10,11] Z (.tuple #[vyy,(.int .i64 ((0:Nat):Int))]) Z ⟨vyy,(by rw[hcf];rfl),cc,(by rw[VY hcf,← hdn];exact a3.up o2)⟩
      ·refine Ai (by first|rfl|(show Value.bool _=_;rw[dq])) (A0 (Ad _ [0,0] Z (Ae 2 Z (A3 (Aq ?_)))))
       have hdz:Ed (Gi p f.toNat a a.length)=0:=fJ (by rw[← ck];assumption)
       have hcf:=VX dc ic hdz
       exact Ag [10,11] Z (.tuple #[(.slice none 0 0),(.int .i64 ((6:Nat):Int))]) Z ⟨(.slice none 0 0),(by rw[hcf];rfl),cu,SX⟩
    ·refine Ai (by first|rfl|(show Value.bool _=_;rw[db])) (Ad _ [0] Z (Ae 1 Z (A0 (A0 (Ad _ [0,0] Z (Af 1 Z (AZ true Z Z (by decide) Ac (Ah (Ai Z (A0 (Ad _ [0,0,0] Z (Ae 3 Z (A3 (Aq ?_))))))))))))))
     have co:IQ p f a d order=2:=O1 oM (by rw[(show Hm order 0 12=false from Gb ‹(!(decide (((0:Nat):Int)≤order) && decide (order≤((12:Nat):Int))))=true›),Bool.and_false])
     have hcf:=K1 (d:=d) (o:=order) (show IQ p f a d order≠0 by rw[co];decide)
     rw[co]at hcf
     exact Ag [10,11] Z (.tuple #[(.slice none 0 0),(.int .i64 ((2:Nat):Int))]) Z ⟨(.slice none 0 0),(by rw[hcf];rfl),ez,SX⟩
   ·refine Ae 5 Z (Ai Z (Ad _ [0] Z (Ae 1 Z (A0 (A0 (Ad _ [0,0] Z (Af 1 Z (AZ true Z Z (by decide) Ac (Ah (Ai Z (A0 (Ad _ [0,0,0] Z (Ae 3 Z (A3 (Aq ?_)))))))))))))))
    have co:IQ p f a d order=2:=O1 oM (by rw[(Gb ‹(!(decide (((d.length:Nat):Int)=(p.getD f.toNat Fn.zero).params) && B7 d))=true›),Bool.and_false,Bool.false_and])
    have hcf:=K1 (d:=d) (o:=order) (show IQ p f a d order≠0 by rw[co];decide)
    rw[co]at hcf
    exact Ag [10,11] Z (.tuple #[(.slice none 0 0),(.int .i64 ((2:Nat):Int))]) Z ⟨(.slice none 0 0),(by rw[hcf];rfl),ga,SX⟩
  ·refine Ae 16 Z (Ai Z (Ad _ [0] Z (Ae 1 Z (A0 (A0 (Ad _ [0,0] Z (Af 1 Z (AZ true Z Z (by decide) Ac (Ah (Ai Z (A0 (Ad _ [0,0,0] Z (Ae 3 Z (A3 (Aq ?_)))))))))))))))
   have co:IQ p f a d order=2:=O1 oM (by rw[(Gb ‹(!(decide (((a.length:Nat):Int)=(p.getD f.toNat Fn.zero).params) && B7 a))=true›),Bool.false_and,Bool.false_and])
   have hcf:=K1 (d:=d) (o:=order) (show IQ p f a d order≠0 by rw[co];decide)
   rw[co]at hcf
   exact Ag [10,11] Z (.tuple #[(.slice none 0 0),(.int .i64 ((2:Nat):Int))]) Z ⟨(.slice none 0 0),(by rw[hcf];rfl),d3,SX⟩
 ·refine AA false Z Z (A8 g6) Ac (Ae 27 Z (Aj Z (A4 (A0 (A0 (Ad _ [0,0] Z (Af 1 Z ?_)))))))
  have i9:HZ p f E8≠((0:Nat):Int):=oM
  refine AZ true Z Z (A7 i9) Ac (Ah (Ai Z (A0 (Ad _ [0,0,0] Z (Ae 3 Z (A3 (Aq ?_)))))))
  have hcn:HZ p f E8≠0:=by omega
  have hkn:=ZT (a:=a) (d:=d) (o:=order) hcn
  have hcf:=K1 (d:=d) (o:=order) (show IQ p f a d order≠0 by rw[hkn];exact hcn)
  rw[hkn]at hcf
  exact Ag [10,11] Z (.tuple #[(.slice none 0 0),(.int .i64 (HZ p f E8))]) Z ⟨(.slice none 0 0),(by rw[hcf]),d2,(by rw[IR (by rw[hcf];exact hcn)];exact LJ _ _ _)⟩
end
section
set_option maxHeartbeats 4000000
set_option maxRecDepth 100000
attribute [local irreducible] LW
theorem Xy {n c:Nat}{M:List (List Int)}{det R:Int}(h:L2 n (n-c) c M det=R)(hc:c<n)(hp:Tb n c M≠n) :
    L2 n (n-(c+1)) (c+1) (HS c ((Bl M c (Tb n c M) []).getD c []) (inv (((Bl M c (Tb n c M) []).getD c []).getD c 0)) (n-(c+1)) (Bl M c (Tb n c M) [])) (md ((if Tb n c M≠c then md (-det)else det)*((Bl M c (Tb n c M) []).getD c []).getD c 0))=R:=by
  rw[← h,show n-c=(n-(c+1))+1 from by omega]
  conv=>rhs;unfold L2
  rw[if_neg hp]
theorem Xz {n c:Nat}{M:List (List Int)}{det R:Int}(h:L2 n (n-c) c M det=R)(hc:c<n)(hp:Tb n c M=n):(0:Int)=R:=by
  rw[← h]
  obtain⟨m,hm⟩:∃m,n-c=m+1:=⟨n-c-1,by omega⟩
  rw[hm]
  unfold L2
  rw[if_pos hp]
theorem Z9 {n c:Nat}{M:List (List Int)}{det R:Int}(h:L2 n (n-c) c M det=R)(hc:n≤c):det=R:=by
  rw[← h,show n-c=0 from by omega];rfl
theorem XA {n c j:Nat}{M1 M2:List (List Int)}(h1:Sq n M1)(hM:M2=HS c (M1.getD c []) (inv ((M1.getD c []).getD c 0)) j M1)(hj:c+1+j<n) :
    M2.set (c+1+j) (NH (M2.getD (c+1+j) []) (M2.getD c []) (md ((M2.getD (c+1+j) []).getD c 0*inv ((M1.getD c []).getD c 0))))=HS c (M1.getD c []) (inv ((M1.getD c []).getD c 0)) (j+1) M1:=by
  have e:M2.getD c []=M1.getD c []:=by rw[hM];exact Oc h1 [] (A9 _) j (by omega)
  rw[e]
  subst hM
  rfl
theorem MN {β:Type}(l:List β)(i j:Nat)(d:β):Bl l i j d=Bl l j i d:=by
  unfold Bl
  by_cases h:i=j
  · subst h;rfl
  · rw[List.set_comm _ _ h]
theorem Tz {n c j:Nat}{M1 M2:List (List Int)}(h1:Sq n M1)(hM:M2=HS c (M1.getD c []) (inv ((M1.getD c []).getD c 0)) j M1)(hj:c+1+j<n) :
    M2.set (c+1+j) (NH (M2.getD (c+1+j) []) (M2.getD c []) (md ((M2.getD (c+1+j) []).getD c 0*inv ((M2.getD c []).getD c 0))))=HS c (M1.getD c []) (inv ((M1.getD c []).getD c 0)) (j+1) M1:=by
  have e:M2.getD c []=M1.getD c []:=by rw[hM];exact Oc h1 [] (A9 _) j (by omega)
  rw[← XA h1 hM hj,e]
theorem XB {p:Prop}(h:p:=by first|exact Ds (by rw[← hpv.out];exact(RC oM).symm)|exact Ds (by rw[← hpv.out];exact(LS (A8 ‹¬(M.getD p []).getD c 0=((0:Nat):Int)›)).symm)):p:=h
theorem Np (w:World)(va:Value)(a:List (List Int))(ha:Rd (B3 (B3 rI)) w.heap va a)(hS:Sq a.length a)(h6:a.length≤6) :
  Calls Tryz.prog 121 #[va] w (fun e w'=>e=.returned (.int .i64 (Ed a))∧Az w w'):=by
 refine At [va] 101 Tryz.func121 Z Z sM ?_
 have bi:Az w w:=Az.refl w
 have hl_va:=ha.lenle
 refine A0 (Ad _ [0] Z (Ae 1 Z (A0 (Ad _ [0,3,0] Z (Af 1 Z (Ap 173 [] [] [va] Z Z aF Ac (IS _ _ _ (ha.ext g2 bi) oM (by intro k;by_cases hk:k<a.length;(have:=hS.row k hk;omega);(rw[show a.getD k []=[]from by simp[Nat.not_lt.1 hk]];simp))) ?_))))))
 rintro e1 w1 ⟨a0,rfl,be,ab⟩
 refine⟨_,rfl,be,?_⟩
 have bj:=be.size
 have c7:=bi.trans be
 refine Ae 1 Z (A0 (Ad _ [0] Z (Ae 1 Z (A0 (A0 (Ad _ [0] Z (Ae 1 Z (A5 ?_))))))))
 refine AN (S:=Nat×List (List Int)×Int) (fun⟨c,M,det⟩=>([(4,(.int .i64 det)),(5,(.int .i64 ((c:Nat):Int))),(3,a0)])) (fun⟨c,M,det⟩ W=>Az w W∧Fr (AS (AS rI 2) 27) w.heap.size W.heap.size W.heap a0 M∧c≤a.length∧Sq a.length M∧(0≤det∧det<1000003)∧Hid (L2 a.length (a.length-c) c M det=Ed a)) (fun⟨c,M,det⟩=>a.length-c) (0,a,((1:Nat):Int)) ⟨rfl,rfl,rfl,trivial⟩ ⟨c7,ab.up o2,sD,(by exact hS),oM,(by exact Ds Z)⟩ ?_
 clear bi ab be bj c7
 rintro⟨c,M,det⟩ ρ2 w2 ⟨bf,a5,c8,hSM,hdet,hdF⟩
 have bk:w.heap.size≤w2.heap.size:=bf.size
 have hlM:=hSM.len
 refine A0 (A0 (Ad _ [0,0,0,0] Z (Af 2 Z (AJ (v:=a0) Bi Z a5.isSl Ac ?_))))
 by_cases c9:((c:Nat):Int)<((M.length:Nat):Int)
 ·refine Ax true Z Z (A7 c9) Ac (Ah (Ai Z (A4 (A0 (A5 (A0 (Ad _ [0,0] Z (Ae 2 Z (A0 (KT (S:=Nat) (fun p=>([(6,(.int .i64 ((p:Nat):Int))),(3,a0),(4,(.int .i64 det)),(5,(.int .i64 ((c:Nat):Int)))])) (fun p W=>Az w W∧Fr (AS (AS rI 2) 27) w.heap.size w2.heap.size W.heap a0 M∧c≤p∧p≤a.length∧Hid (p=Tb a.length c M)) ?_ ?_))))))))))
  ·refine A5 ?_
   refine AN (S:=Nat) (fun p=>([(6,(.int .i64 ((p:Nat):Int))),(3,a0),(4,(.int .i64 det)),(5,(.int .i64 ((c:Nat):Int)))])) (fun p W=>Az w W∧Fr (AS (AS rI 2) 27) w.heap.size w2.heap.size W.heap a0 M∧c≤p∧p≤a.length∧Hid (N8 (fun r=>decide ((M.getD r []).getD c 0=0)) (a.length-p) p=Tb a.length c M)) (fun p=>a.length-p) c ⟨rfl,rfl,rfl,rfl,trivial⟩ ⟨bf,a5,sD,sD,(by exact Ds Z)⟩ ?_
   clear a5
   rintro p ρ5 w5 ⟨bg,a3,ca,cb,hpv⟩
   have cs:w.heap.size≤w5.heap.size:=bg.size
   refine A0 (A0 (Ad _ [0,0,0,0,0,0,0,0,2,0,0,2,0,0] Z (Af 2 Z (AJ (v:=a0) Bi Z a3.isSl Ac ?_))))
   by_cases cc:((p:Nat):Int)<((M.length:Nat):Int)
   ·refine Ax true Z Z (A7 cc) Ac (Af 3 Z (Au (v:=a0) p Bi AX Z Z a3.isSl Z sD (Al (e:=22) Z Z Z) ?_))
    obtain⟨bl,ct,bm⟩:=a3.rd2.get (k:=p) [] sD
    have cu:=bm.lenle
    refine Ak (p:=Aw a0 p 1) (.inr Z) bl B6 Z ct (Al (e:=22) Z Z Z) ?_
    have hrp:=hSM.row p oM
    refine Af 1 Z (Au (v:=bl) c Bh BA Z Z bm.isSl Z sD (Al (e:=22) Z Z Z) ?_)
    refine Ak (p:=Aw bl c 1) (.inr Z) (.int .i64 ((M.getD p []).getD c 0)) AH Z (bm.getI sD).1 (Al (e:=22) Z Z Z) ?_
    by_cases cd:(M.getD p []).getD c 0=((0:Nat):Int)
    ·refine AA true Z Z (A7 cd) (Al (e:=22) Z Z Z) (Ae 1 Z (Ai Z (A4 (A5 (Ad _ [0,0,0] Z (Af 1 Z (AI ((p+1:Nat):Int) Z Z (B8 oM sD) Ac (Ae 1 Z ?_))))))))
     exact⟨(p+1),_,rfl,⟨rfl,rfl,rfl,rfl,trivial⟩,⟨bg,a3,sD,sD,(by exact Ds (by rw[← hpv.out,JC (f:=(fun r=>decide ((M.getD r []).getD c 0=0))) (n:=a.length) (p:=p) oM (A7 ‹(M.getD p []).getD c 0=((0:Nat):Int)›)]))⟩,by first|omega|(dsimp only;omega)⟩
    ·refine AA false Z Z (A8 cd) (Al (e:=22) Z Z Z) (Ae 1 Z (Aj Z (A6 (As (As (An ?_))))))
     exact⟨p,_,rfl,⟨rfl,rfl,rfl,rfl,trivial⟩,⟨bg,a3,sD,sD,XB⟩⟩
   ·refine Ax false Z Z (A8 cc) Ac (Ae 10 Z (Aj Z (A6 (As (As (An ?_))))))
    exact⟨p,_,rfl,⟨rfl,rfl,rfl,rfl,trivial⟩,⟨bg,a3,sD,sD,XB⟩⟩
  ·clear a5
   rintro p ρ4 w4 ⟨aj,a2,ce,cf,hpe⟩
   have bn:w.heap.size≤w4.heap.size:=aj.size
   refine A0 (A0 (Ad _ [0,0,0,0] Z (Af 2 Z (AJ (v:=a0) Bi Z a2.isSl Ac ?_))))
   by_cases cg:((p:Nat):Int)=((M.length:Nat):Int)
   ·exact AA true Z Z (A7 cg) Ac (Ah (Ai Z (A0 (Ad _ [0] Z (Ae 1 Z (A3 (Aq (AL (Aq (Aq (AL (Aq (Ag [2] Z (.int .i64 ((0:Nat):Int)) Z ⟨(AV (Xz hdF.out oM (by have h9:=hpe.out;omega))),aj⟩)))))))))))))
   ·refine AA false Z Z (A8 cg) Ac (Ah (Aj Z (A4 (A0 (KT (S:=Int) (fun(d2:Int)=>([(4,(.int .i64 d2)),(3,a0),(5,(.int .i64 ((c:Nat):Int)))])) (fun(d2:Int) (W:World)=>Az w W∧Fr (AS (AS rI 2) 27) w.heap.size W.heap.size W.heap a0 (Bl M c p [])∧Hid (d2=(if p≠c then md (-det)else det))∧(0≤d2∧d2<1000003)) ?_ ?_)))))
    ·refine A0 (Ad _ [0,0,0] Z (Af 2 Z ?_))
     by_cases ak:((c:Nat):Int)<((p:Nat):Int)
     ·refine C6 true Z Z (A7 ak) Ac (Ah (Ai Z (A0 (Ad _ [0,0,0,2,0] Z (Af 2 Z (Au (v:=a0) p Bi AX Z Z a2.isSl Z sD Ac ?_))))))
      obtain⟨al,am,an⟩:=a2.rd2.get (k:=p) [] sD
      have ch:=an.lenle
      refine Ak (p:=Aw a0 p 1) (.inr Z) al B6 Z am Ac (Ae 1 Z (A0 (Ad _ [0,0,0,0,0,2,0,4] Z (Af 4 Z (Au (v:=a0) c Bi AX Z Z a2.isSl Z sD Ac ?_)))))
      obtain⟨ao,ap,aq⟩:=a2.rd2.get (k:=c) [] sD
      have ci:=aq.lenle
      refine Ak (p:=Aw a0 c 1) (.inr Z) ao B6 Z ap Ac (Au (v:=a0) p Bi AX Z Z a2.isSl Z sD Ac ?_)
      have ar:=Bj aq.isSl
      have au:=Bj an.isSl
      obtain⟨cv,av,ac,ad⟩:=a2.opn o1 oM
      obtain⟨ua14,aw,ax⟩:=ad c sD
      obtain⟨uc14,ay,az⟩:=ad p sD
      have b0:=Ig aw ax ap
      have b1:=Ig ay az am
      refine Kf o1 (v:=a0) (u:=ao) (w:=w4) Ja Z Z av ar (by rw[ac];exact sD) Ac fun w14 F14 b2 cw bo bp=>?_
      have b3:Az w w14:=b2.below aj (fun c hc=>Aa (A9 _) (bo c hc).1) aj.size
      have cj:=b2.size
      refine Ah (A0 (Ad _ [0,0,0,0,4] Z (Af 3 Z (Au (v:=a0) c Bi AX Z Z a2.isSl Z sD Ac ?_))))
      refine Kf o1 (v:=a0) (u:=al) (w:=w14) Ja Z Z bp au (by rw[List.length_set,ac];exact sD) Ac fun w15 F15 b4 cx bq br=>?_
      have bs:Az w w15:=b4.below b3 (fun c hc=>Aa (A9 _) (bq c hc).1) b3.size
      have ck:=b4.size
      have b5:=br.swap [] (i:=p) (j:=c) sD sD (by unfold Bl;rw[b0,b1])
      exact Ah (Ad _ [0,0,0] Z (Af 1 Z (AD 138 [] [] [(.int .i64 det)] Z Z gD Ac (.int .i64 (md (-det))) (fun wq=>Nf wq _ oM oM) (Ae 1 Z ⟨(md (-det)),_,rfl,⟨rfl,rfl,rfl,trivial⟩,⟨bs,(by first|(rw[MN];exact b5.up o2)|(rw[show p=c from by omega,LL _ _ _ oM];exact b5.up o2)),(by first|exact Ds (by rw[if_pos oM])|exact Ds (by rw[if_neg oM])),(by first|exact BK _|exact hdet)⟩⟩))))
     ·exact C6 false Z Z (A8 ak) Ac (Ah (Aj Z (A4 ⟨det,_,rfl,⟨rfl,rfl,rfl,trivial⟩,⟨aj,(by first|(rw[MN];exact a2.up o2)|(rw[show p=c from by omega,LL _ _ _ oM];exact a2.up o2)),(by first|exact Ds (by rw[if_pos oM])|exact Ds (by rw[if_neg oM])),(by first|exact BK _|exact hdet)⟩⟩)))
    ·clear bf bk a2 aj bn
     rintro d2 ρ10 w10 ⟨af,a4,cy,hd2r⟩
     have b6:w.heap.size≤w10.heap.size:=af.size
     refine A0 (Ad _ [0,0,0,0,2,0,0,2,0,0] Z ?_)
     have bh:Sq a.length (Bl M c p []):=hSM.swap oM oM
     have d0:=bh.len
     have d1:=bh.row c oM
     refine Af 3 Z (Au (v:=a0) c Bi AX Z Z a4.isSl Z sD Ac ?_)
     obtain⟨ag,bt,a7⟩:=a4.rd2.get (k:=c) [] sD
     have b7:=a7.lenle
     refine Ak (p:=Aw a0 c 1) (.inr Z) ag B6 Z bt Ac (Af 1 Z (Au (v:=ag) c Bh BA Z Z a7.isSl Z sD Ac ?_))
     refine Ak (p:=Aw ag c 1) (.inr Z) (.int .i64 (((Bl M c p []).getD c []).getD c 0)) AH Z (a7.getI sD).1 Ac ?_
     refine AD 76 [] [] [(.int .i64 d2),(.int .i64 (((Bl M c p []).getD c []).getD c 0))] Z Z Nc Ac (.int .i64 (md (d2*(((Bl M c p []).getD c []).getD c 0)))) (fun wq=>Cm wq _ _ oM (a7.getI sD).2) (Ae 1 Z (A0 (Ad _ [0,0,0] Z (Af 1 Z ?_))))
     refine AI ((c+1:Nat):Int) Z Z (B8 oM sD) Ac (Ae 1 Z (A5 ?_))
     refine AN (S:=Nat×List (List Int)) (fun⟨j,M2⟩=>([(8,(.int .i64 ((c+1+j:Nat):Int))),(3,a0),(4,(.int .i64 (md (d2*(((Bl M c p []).getD c []).getD c 0))))),(5,(.int .i64 ((c:Nat):Int)))])) (fun⟨j,M2⟩ W=>Az w W∧Fr (AS (AS rI 2) 27) w.heap.size W.heap.size W.heap a0 M2∧c+1+j≤a.length∧Sq a.length M2∧Hid (M2=HS c ((Bl M c p []).getD c []) (inv (((Bl M c p []).getD c []).getD c 0)) j (Bl M c p []))) (fun⟨j,M2⟩=>a.length-j) (0,(Bl M c p [])) ⟨rfl,rfl,rfl,rfl,trivial⟩ ⟨af,a4.up o2,sD,(by exact bh),(by exact Ds Z)⟩ ?_
     clear a4 af b6 b7
     rintro⟨j,M2⟩ ρ19 w19 ⟨a8,a1,bu,ae,hEl⟩
     have cl:w.heap.size≤w19.heap.size:=a8.size
     have d3:=ae.len
     have d4:=ae.row c oM
     have cm:=ae.row (c+1+j)
     refine A0 (A0 (Ad _ [0,0,0,0] Z (Af 2 Z (AJ (v:=a0) Bi Z a1.isSl Ac ?_))))
     by_cases b8:((c+1+j:Nat):Int)<((M2.length:Nat):Int)
     ·refine Ax true Z Z (A7 b8) Ac (Ah (Ai Z (A4 (A0 (A5 (AY _ [0,0,0,1,0,0,0,1,0,0,0,1,0,0,1,0,0,0,1,0,0,1,0,0,4] mixed (by kernel_rfl) ?_))))))
      have d5:=cm oM
      refine Af 2 Z (Au (v:=a0) (c+1+j) Bi AX Z Z a1.isSl Z sD Ac ?_)
      obtain⟨b9,ba,bv⟩:=a1.rd2.get (k:=c+1+j) [] sD
      have cn:=bv.lenle
      refine Ak (p:=Aw a0 (c+1+j) 1) (.inl Z) b9 B6 Z ba Ac (Af 2 Z (Au (v:=a0) c Bi AX Z Z a1.isSl Z sD Ac ?_))
      obtain⟨bb,bc,bw⟩:=a1.rd2.get (k:=c) [] sD
      have co:=bw.lenle
      refine Ak (p:=Aw a0 c 1) (.inl Z) bb B6 Z bc Ac (Af 2 Z (Au (v:=a0) (c+1+j) Bi AX Z Z a1.isSl Z sD Ac ?_))
      obtain⟨ah,bx,a9⟩:=a1.rd2.get (k:=c+1+j) [] sD
      have cp:=a9.lenle
      refine Ak (p:=Aw a0 (c+1+j) 1) (.inl Z) ah B6 Z bx Ac (Af 1 Z (Au (v:=ah) c Bh BA Z Z a9.isSl Z sD Ac ?_))
      refine Ak (p:=Aw ah c 1) (.inl Z) (.int .i64 ((M2.getD (c+1+j) []).getD c 0)) AH Z (a9.getI sD).1 Ac (Af 2 Z ?_)
      refine Au (v:=a0) c Bi AX Z Z a1.isSl Z sD Ac ?_
      obtain⟨ai,bz,aa⟩:=a1.rd2.get (k:=c) [] sD
      have cq:=aa.lenle
      refine Ak (p:=Aw a0 c 1) (.inl Z) ai B6 Z bz Ac (Af 1 Z (Au (v:=ai) c Bh BA Z Z aa.isSl Z sD Ac ?_))
      refine Ak (p:=Aw ai c 1) (.inl Z) (.int .i64 ((M2.getD c []).getD c 0)) AH Z (aa.getI sD).1 Ac ?_
      refine AD 175 [] [] [(.int .i64 ((M2.getD c []).getD c 0))] Z Z X5 Ac (.int .i64 (inv ((M2.getD c []).getD c 0))) (fun wq=>GF wq _ (aa.getI sD).2) ?_
      refine AD 76 [] [] [(.int .i64 ((M2.getD (c+1+j) []).getD c 0)),(.int .i64 (inv ((M2.getD c []).getD c 0)))] Z Z Nc Ac (.int .i64 (md (((M2.getD (c+1+j) []).getD c 0)*(inv ((M2.getD c []).getD c 0))))) (fun wq=>Cm wq _ _ (a9.getI sD).2 (Lg _)) ?_
      obtain⟨G27,c0,c1,bd,c2,c3⟩:=a1.row_two o1 [] sD ba
      refine B1 174 [] [] [b9,bb,(.int .i64 (md (((M2.getD (c+1+j) []).getD c 0)*(inv ((M2.getD c []).getD c 0)))))] Z Z aG Ac (I7 _ _ _ _ _ _ _ c0 c1 (fun w2 h2=>(c3 _ _ oM sD bc w2 h2.of_drew).imp fun C h=>h.rd id) (Dt _) (by have:=cm oM;omega) (by exact ae.num _) (by exact ae.num _) (by exact BK _)) ?_
      rintro e27 w27 ⟨rfl,a6,c4⟩
      replace a6:=a6.of_drew
      refine⟨_,rfl,?_⟩
      have c5:Az w w27:=a6.below a8 (fun b hb=>Aa (A9 _) (bd b hb).1) a8.size
      have cz:=bd
      have c6:=c2 a6 c4
      have cr:=a6.size
      refine Ah (Ad _ [0,0,0] Z (Af 1 Z (AI (((c+1+j)+1:Nat):Int) Z Z (B8 oM sD) Ac (Ae 1 Z ?_))))
      exact⟨((j+1),(M2.set (c+1+j) (NH (M2.getD (c+1+j) []) (M2.getD c []) (md (((M2.getD (c+1+j) []).getD c 0)*(inv ((M2.getD c []).getD c 0))))))),_,rfl,⟨rfl,rfl,rfl,rfl,trivial⟩,⟨c5,c6.up o2,sD,(by exact Sq.set (r:=c+1+j) ae oM (by rw[Hl];exact ae.row _ oM) (RA _ _ _)),(by exact Ds (Tz bh hEl.out oM))⟩,by first|omega|(dsimp only;omega)⟩
     ·refine Ax false Z Z (A8 b8) Ac (Ah (Aj Z (A6 (As (As (An (Ad _ [0,0,0] Z (Af 1 Z (AI ((c+1:Nat):Int) Z Z (B8 oM sD) Ac (Ae 1 Z ?_))))))))))
      exact⟨((c+1),M2,(md (d2*(((Bl M c p []).getD c []).getD c 0)))),_,rfl,⟨rfl,rfl,rfl,trivial⟩,⟨a8,a1.up o2,sD,(by exact ae),(by exact BK _),(by exact Ds (by have h:=Xy hdF.out oM (by have h9:=hpe.out;omega);rw[← hpe.out]at h;rw[← cy.out]at h;obtain rfl:j=a.length-(c+1):=oM;rw[← hEl.out]at h;exact h))⟩,by first|omega|(dsimp only;omega)⟩
 ·exact Ax false Z Z (A8 c9) Ac (Ah (Aj Z (A6 (As (As (An (A0 (Ad _ [0,0] Z (Ae 2 Z (A3 (Ag [2] Z (.int .i64 det) Z ⟨(AV (Z9 hdF.out oM)),bf⟩)))))))))))
end
section
set_option maxHeartbeats 4000000
set_option maxRecDepth 100000
attribute [local irreducible] LW
theorem L9 (w:World)(va:Value)(a:List (List Int))(vb:Value)(b:List Int)(ha:Rd (B3 (B3 rI)) w.heap va a)(hb:Rd (B3 rI) w.heap vb b)(hS:Sq a.length a)(h6:a.length≤6)(hbl:b.length=a.length)(hqb:B7 b=true)(hok:Iw a b≠none) :
  Calls Tryz.prog 125 #[va,vb] w (fun e w'=>∃v0:Value,e=.returned (v0)∧Az w w'∧Fr (AS rI 2) w.heap.size w'.heap.size w'.heap v0 (Ix a b)):=by
 refine At [va,vb] 116 Tryz.func125 Z Z sM ?_
 have ci:Az w w:=Az.refl w
 have hl_va:=ha.lenle
 have hl_vb:=hb.lenle
 refine A0 (Ad _ [0] Z (Ae 1 Z (A0 (Ad _ [0,3,0] Z (Af 1 Z (Ap 173 [] [] [va] Z Z aF Ac (IS _ _ _ (ha.ext g2 ci) oM (by intro k;by_cases hk:k<a.length;(have:=hS.row k hk;omega);(rw[show a.getD k []=[]from by simp[Nat.not_lt.1 hk]];simp))) ?_))))))
 rintro e1 w1 ⟨a0,rfl,ch,aq⟩
 refine⟨_,rfl,ch,?_⟩
 have cj:=ch.size
 have d8:=ci.trans ch
 refine Ae 1 Z (A0 (A0 (Ad _ [0] Z (Ae 1 Z (A5 ?_)))))
 have kY3:=O8.of (X:=[]) (U':=0) aq (A9 _) (fun b hb=>by cases hb)
 refine AN (S:=Nat) (fun i=>([(6,(.int .i64 ((i:Nat):Int))),(1,vb),(5,a0)])) (fun i W=>Az w W∧O8 2 27 w.heap.size [] W.heap a0 (Cn i (DS a b) a)∧i≤a.length) (fun i=>a.length-i) 0 ⟨rfl,rfl,rfl,trivial⟩ ⟨d8,(by rw[C9];exact kY3),sD⟩ ?_
 clear ci aq ch cj d8
 rintro i ρ2 w2 ⟨b7,a5,d9⟩
 have ck:w.heap.size≤w2.heap.size:=b7.size
 have hml:=UE a b i
 have hri:i<a.length→((Cn i (DS a b) a).getD i []).length=a.length:=fun h=>by rw[Ok a b h];exact hS.row i h
 refine A0 (A0 (Ad _ [0,0,0,0] Z (Af 2 Z (AJ (v:=a0) Bi Z a5.isSl Ac ?_))))
 by_cases da:((i:Nat):Int)<(((Cn i (DS a b) a).length:Nat):Int)
 ·refine Ax true Z Z (A7 da) Ac (Ah (Ai Z (A4 (A0 (A5 (AY _ [0,0,0,0,0,1,0,0,0,1,3,4,0,4] mixed (by kernel_rfl) (Af 4 Z (Au (v:=a0) i Bi AX Z Z a5.isSl Z sD Ac ?_))))))))
  obtain⟨db,dc,du⟩:=a5.rd2.get (k:=i) [] sD
  have dv:=du.lenle
  refine Ak (p:=Aw a0 i 1) (.inl Z) db B6 Z dc Ac (Af 2 Z (Au (v:=vb) i Bh BA Z Z hb.isSl Z sD Ac ?_))
  refine Ak (p:=Aw vb i 1) (.inl Z) (.int .i64 (b.getD i 0)) AH Z (AP b7.drew (hb.getI sD).1) Ac ?_
  refine Bq (u:=(.int .i64 (b.getD i 0))) (B:=w2.heap.size) AQ Bh BA Z Z (N6 w2.heap.size w2.heap.size _ _ (hb.getI sD).2) (A9 _) Ac fun v6 w6 b6 ea dw=>?_
  replace b6:=b6.of_drew
  have dx:=b6.size
  have cl:=b7.trans b6
  have ai:=a5.ext (o2) b6
  have cm:=AP b6 dc
  refine TW (v:=a0) (u:=db) (a:=v6) (r:=i) Bh BA Z Z Z ai cl.size (fun b hb=>by cases hb) sD cm dw.rd1 (by have:=hS.row i oM;rw[Ok a b oM];simp only[List.length_cons,List.length_nil];omega) (by unfold maxLen;have:=hS.row i oM;rw[Ok a b oM];simp only[List.length_cons,List.length_nil];omega) Ac fun v8 w8 F8 dd dy de=>?_
  have df:Az w w8:=dd.below cl (fun b hb=>(dy b hb).1) cl.size
  have dz:=dd.size
  refine Au (v:=a0) i Bi AX Z Z de.isSl Z sD Ac (TX (v:=a0) (u:=v8) (w:=w8) Ja Z Z de Ac fun w9 F9 dg eb e0 e3=>?_)
  have e4:Az w w9:=dg.below df (fun b hb=>(e0 b hb).1) df.size
  have e5:=dg.size
  refine Ah (Ad _ [0,0,0] Z (Af 1 Z (AI ((i+1:Nat):Int) Z Z (B8 oM sD) Ac (Ae 1 Z ?_))))
  exact⟨(i+1),_,rfl,⟨rfl,rfl,rfl,trivial⟩,⟨e4,(by rw[← UD a b oM];exact e3),sD⟩,by first|omega|(dsimp only;omega)⟩
 ·refine Ax false Z Z (A8 da) Ac (Ah (Aj Z (A6 (As (As (An (A0 (A0 (Ad _ [0] Z (Ae 1 Z (A5 ?_)))))))))))
  have kF11:=a5.fr
  refine AN (S:=Nat×List (List Int)) (fun⟨c,M⟩=>([(7,(.int .i64 ((c:Nat):Int))),(5,a0)])) (fun⟨c,M⟩ W=>Az w W∧Fr (AS (AS rI 2) 27) w.heap.size W.heap.size W.heap a0 M∧c≤a.length∧Sh Nm 0 a.length (a.length+1) M∧Hid (N1 nA a.length (a.length-c) c M=Iw a b)) (fun⟨c,M⟩=>a.length-c) (0,DS a b) ⟨rfl,rfl,trivial⟩ ⟨b7,(by have h:=kF11.up o2;rw[CL (by simp[DS]) oM]at h;exact h),sD,(by exact GB hS hqb),(by exact Ds Z)⟩ ?_
  clear a5 b7 ck
  rintro⟨c,M⟩ ρ10 w10 ⟨a9,a3,cn,hSM,hJ⟩
  have b8:w.heap.size≤w10.heap.size:=a9.size
  have hlM:=hSM.len
  refine A0 (A0 (Ad _ [0,0,0,0] Z (Af 2 Z (AJ (v:=a0) Bi Z a3.isSl Ac ?_))))
  by_cases b9:((c:Nat):Int)<((M.length:Nat):Int)
  ·refine Ax true Z Z (A7 b9) Ac (Ah (Ai Z (A4 (A0 (A5 (A0 (Ad _ [0,0] Z (Ae 2 Z (A0 (A5 ?_))))))))))
   have hne:=Y6 hJ.out oM hok
   have hpl:=Kp nA hne oM
   refine AN (S:=Nat) (fun p=>([(8,(.int .i64 ((p:Nat):Int))),(5,a0),(7,(.int .i64 ((c:Nat):Int)))])) (fun p W=>Az w W∧Fr (AS (AS rI 2) 27) w.heap.size W.heap.size W.heap a0 M∧c≤p∧p<a.length∧Hid (N8 (fun r=>nA.z ((M.getD r []).getD c nA.d)) (a.length-p) p=Hc nA a.length c M)) (fun p=>a.length-p) c ⟨rfl,rfl,rfl,trivial⟩ ⟨a9,a3.up o2,sD,oM,(by exact Ds Z)⟩ ?_
   clear a3 a9 b8
   rintro p ρ13 w13 ⟨ac,a1,co,cp,hpv⟩
   have ba:w.heap.size≤w13.heap.size:=ac.size
   refine A0 (A0 (Ad _ [0,0,0,2,0,0,2,0] Z ?_))
   have hrp:=hSM.row p oM
   have hrl:=hrp.len
   refine Af 2 Z (Au (v:=a0) p Bi AX Z Z a1.isSl Z sD Ac ?_)
   obtain⟨av,cq,aw⟩:=a1.rd2.get (k:=p) [] sD
   have bb:=aw.lenle
   refine Ak (p:=Aw a0 p 1) (.inr Z) av B6 Z cq Ac (Af 1 Z (Au (v:=av) c Bh BA Z Z aw.isSl Z sD Ac ?_))
   refine Ak (p:=Aw av c 1) (.inr Z) (.int .i64 ((M.getD p []).getD c 0)) AH Z (aw.getI sD).1 Ac ?_
   by_cases bc:(M.getD p []).getD c 0=((0:Nat):Int)
   ·refine AA true Z Z (A7 bc) Ac (Ah (Ai Z (A4 (A5 (Ad _ [0,0,0] Z (Af 1 Z (AI ((p+1:Nat):Int) Z Z (B8 oM sD) Ac (Ae 1 Z ?_))))))))
    exact⟨(p+1),_,rfl,⟨rfl,rfl,rfl,trivial⟩,⟨ac,a1.up o2,sD,(by have e1:=hpv.out;rw[JC (f:=(fun r=>nA.z ((M.getD r []).getD c nA.d))) (n:=a.length) (p:=p) oM (A7 ‹(M.getD p []).getD c 0=((0:Nat):Int)›)]at e1;have e2:=(Ob (fun r=>nA.z ((M.getD r []).getD c nA.d)) (a.length-(p+1)) (p+1)).1;omega),(by exact Ds (by rw[← hpv.out,JC (f:=(fun r=>nA.z ((M.getD r []).getD c nA.d))) (n:=a.length) (p:=p) oM (A7 ‹(M.getD p []).getD c 0=((0:Nat):Int)›)]))⟩,by first|omega|(dsimp only;omega)⟩
   ·refine AA false Z Z (A8 bc) Ac (Ah (Aj Z (A6 (As (As (An (A0 (Ad _ [0,0,0,2,0] Z ?_))))))))
    have hpe:p=Hc nA a.length c M:=by rw[← hpv.out];exact(LS (f:=(fun r=>nA.z ((M.getD r []).getD c nA.d))) (A8 ‹¬(M.getD p []).getD c 0=((0:Nat):Int)›)).symm
    have hrp:=hSM.row p oM
    have hrl:=hrp.len
    refine Af 2 Z (Au (v:=a0) p Bi AX Z Z a1.isSl Z sD Ac ?_)
    obtain⟨aj,bd,be⟩:=a1.rd2.get (k:=p) [] sD
    have bf:=be.lenle
    refine Ak (p:=Aw a0 p 1) (.inr Z) aj B6 Z bd Ac (Ae 1 Z (A0 (Ad _ [0,0,0,0,0,2,0,4] Z (Af 4 Z (Au (v:=a0) c Bi AX Z Z a1.isSl Z sD Ac ?_)))))
    obtain⟨bg,bh,bi⟩:=a1.rd2.get (k:=c) [] sD
    have bj:=bi.lenle
    refine Ak (p:=Aw a0 c 1) (.inr Z) bg B6 Z bh Ac (Au (v:=a0) p Bi AX Z Z a1.isSl Z sD Ac ?_)
    have bk:=Bj bi.isSl
    have dh:=Bj be.isSl
    obtain⟨e6,bl,ar,au⟩:=a1.opn o1 oM
    obtain⟨ua18,bm,bn⟩:=au c sD
    obtain⟨uc18,bo,bp⟩:=au p sD
    have bq:=Ig bm bn bh
    have br:=Ig bo bp bd
    refine Kf o1 (v:=a0) (u:=bg) (w:=w13) Ja Z Z bl bk (by rw[ar];exact sD) Ac fun w18 F18 ax cr bs ay=>?_
    have az:Az w w18:=ax.below ac (fun c hc=>Aa (A9 _) (bs c hc).1) ac.size
    have bt:=ax.size
    have ak:=XW (ay.row [] sD br)
    refine Ah (A0 (Ad _ [0,0,0,0,0,0,2,0,3,0,4] Z (Af 5 Z (Au (v:=aj) c Bh BA Z Z ak.isSl Z sD Ac ?_))))
    refine Ak (p:=Aw aj c 1) (.inr Z) (.int .i64 ((M.getD p []).getD c 0)) AH Z (ak.getI sD).1 Ac ?_
    refine AD 175 [] [] [(.int .i64 ((M.getD p []).getD c 0))] Z Z X5 Ac (.int .i64 (inv ((M.getD p []).getD c 0))) (fun wq=>GF wq _ (ak.getI sD).2) (Ap 176 [] [] [aj,(.int .i64 (inv ((M.getD p []).getD c 0)))] Z Z X6 Ac (Fw _ _ _ _ ak (Lg _) (by have:=hrp.len;omega)) ?_)
    rintro e20 w20 ⟨bu,rfl,ad,a7⟩
    refine⟨_,rfl,ad,?_⟩
    have bv:=ad.size
    have b0:=az.trans ad
    have a8:=ay.ext o1 ad
    refine Au (v:=a0) c Bi AX Z Z a1.isSl Z sD Ac ?_
    refine Kf o1 (v:=a0) (u:=bu) (w:=w20) Ja Z Z a8 (Bj a7.isSl) (by rw[List.length_set,ar];exact sD) Ac fun w21 F21 al cs b1 bw=>?_
    have bx:Az w w21:=al.below b0 (fun c hc=>Aa (A9 _) (b1 c hc).1) b0.size
    have bz:=al.size
    have c0:=a7.chg (o1) al (fun c hc=>by have:=b1 c hc;omega)
    have c1:=bw.rot o1 [] (c:=c) (p:=p) sD sD (by rw[bq]) c0 oM az.size
    refine Ah (A0 (Ad _ [0] Z ?_))
    have hD:Sh Nm 0 a.length (a.length+1) (FW nA c p M):=hSM.div Od oM oM oM
    have hlD:=hD.len
    refine Ae 1 Z (A5 (AN (S:=Nat) (fun i=>([(10,(.int .i64 ((i:Nat):Int))),(5,a0),(7,(.int .i64 ((c:Nat):Int)))])) (fun i W=>Az w W∧Fr (AS (AS rI 2) 27) w.heap.size W.heap.size W.heap a0 (Cn i (Cc nA a.length c (FW nA c p M)) (FW nA c p M))∧i≤a.length) (fun i=>a.length-i) 0 ⟨rfl,rfl,rfl,trivial⟩ ⟨bx,(by rw[C9,← jZ oM oM];exact c1.up o2),sD⟩ ?_))
    clear a1 ac ba bb bf bj ay bs cr ax az bt a7 ad bv b0 a8 bw b1 cs al bx bz c0 c1
    rintro i ρ23 w23 ⟨ae,a2,ct⟩
    have di:w.heap.size≤w23.heap.size:=ae.size
    have hlr:=Te (R:=nA) (c:=c) hlD i
    refine A0 (A0 (Ad _ [0,0,0,0] Z (Af 2 Z (AJ (v:=a0) Bi Z a2.isSl Ac ?_))))
    by_cases c2:((i:Nat):Int)<(((Cn i (Cc nA a.length c (FW nA c p M)) (FW nA c p M)).length:Nat):Int)
    ·refine Ax true Z Z (A7 c2) Ac (Ah (Ai Z (A4 (A0 (A5 (A0 (Ad _ [0,0,0] Z (Af 2 Z ?_))))))))
     by_cases c3:((i:Nat):Int)≠((c:Nat):Int)
     ·refine AZ true Z Z (A7 c3) Ac (Ah (Ai Z (AY _ [0,0,0,1,0,0,0,1,0,0,0,1,0,0,1,4] mixed (by kernel_rfl) ?_)))
      have hrI:=NL Od hD (c:=c) oM oM (show i≤a.length by omega) (show i<a.length by omega)
      have hrC:=NL Od hD (c:=c) oM oM (show i≤a.length by omega) (show c<a.length by omega)
      have hrIl:=hrI.len
      have hrCl:=hrC.len
      refine Af 2 Z (Au (v:=a0) i Bi AX Z Z a2.isSl Z sD Ac ?_)
      obtain⟨c4,c5,cu⟩:=a2.rd2.get (k:=i) [] sD
      have dj:=cu.lenle
      refine Ak (p:=Aw a0 i 1) (.inl Z) c4 B6 Z c5 Ac (Af 2 Z (Au (v:=a0) c Bi AX Z Z a2.isSl Z sD Ac ?_))
      obtain⟨c6,c7,cv⟩:=a2.rd2.get (k:=c) [] sD
      have dk:=cv.lenle
      refine Ak (p:=Aw a0 c 1) (.inl Z) c6 B6 Z c7 Ac (Af 2 Z (Au (v:=a0) i Bi AX Z Z a2.isSl Z sD Ac ?_))
      obtain⟨b2,cw,am⟩:=a2.rd2.get (k:=i) [] sD
      have dl:=am.lenle
      refine Ak (p:=Aw a0 i 1) (.inl Z) b2 B6 Z cw Ac (Af 1 Z (Au (v:=b2) c Bh BA Z Z am.isSl Z sD Ac ?_))
      refine Ak (p:=Aw b2 c 1) (.inl Z) (.int .i64 (((Cn i (Cc nA a.length c (FW nA c p M)) (FW nA c p M)).getD i []).getD c 0)) AH Z (am.getI sD).1 Ac ?_
      obtain⟨G29,cx,cy,c8,cz,d0⟩:=a2.row_two o1 [] sD c5
      refine B1 174 [] [] [c4,c6,(.int .i64 (((Cn i (Cc nA a.length c (FW nA c p M)) (FW nA c p M)).getD i []).getD c 0))] Z Z aG Ac (I7 _ _ _ _ _ _ _ cx cy (fun w2 h2=>(d0 _ _ oM sD c7 w2 h2.of_drew).imp fun C h=>h.rd id) (am.getI sD).2 (by have:=hrI.len;have:=hrC.len;omega) (by exact Pv hrI) (by exact Pv hrC) (by exact hrI.val c oM)) ?_
      rintro e29 w29 ⟨rfl,af,d1⟩
      replace af:=af.of_drew
      refine⟨_,rfl,?_⟩
      have d2:Az w w29:=af.below ae (fun b hb=>Aa (A9 _) (c8 b hb).1) ae.size
      have e7:=c8
      have c9:=cz af d1
      have dm:=af.size
      refine Ah (Ad _ [0,0,0] Z (Af 1 Z (AI ((i+1:Nat):Int) Z Z (B8 oM sD) Ac (Ae 1 Z ?_))))
      exact⟨(i+1),_,rfl,⟨rfl,rfl,rfl,trivial⟩,⟨d2,(by first|(rw[← PC hlD oM oM oM];exact c9.up o2)|(rw[J4 hlD oM oM];exact c9.up o2)),sD⟩,by first|omega|(dsimp only;omega)⟩
     ·refine AZ false Z Z (A8 c3) Ac (Ah (Aj Z (A4 (Ad _ [0,0,0] Z (Af 1 Z (AI ((i+1:Nat):Int) Z Z (B8 oM sD) Ac (Ae 1 Z ?_)))))))
      exact⟨(i+1),_,rfl,⟨rfl,rfl,rfl,trivial⟩,⟨ae,(by first|(rw[← PC hlD oM oM oM];exact a2.up o2)|(rw[J4 hlD oM oM];exact a2.up o2)),sD⟩,by first|omega|(dsimp only;omega)⟩
    ·refine Ax false Z Z (A8 c2) Ac (Ah (Aj Z (A6 (As (As (An (Ad _ [0,0,0] Z (Af 1 Z (AI ((c+1:Nat):Int) Z Z (B8 oM sD) Ac (Ae 1 Z ?_))))))))))
     exact⟨((c+1),(Cn i (Cc nA a.length c (FW nA c p M)) (FW nA c p M))),_,rfl,⟨rfl,rfl,trivial⟩,⟨ae,(by have h:=a2.up o2;exact h),sD,(by rw[CL (by simp[Cc,hlD]) oM];exact hD.rows Od oM oM),(by rw[CL (by simp[Cc,hlD]) oM];exact Ds (by have h:=Pz hJ.out oM (by rw[← hpe];omega);rw[← hpe]at h;exact h))⟩,by first|omega|(dsimp only;omega)⟩
  ·refine Ax false Z Z (A8 b9) Ac (Ah (Aj Z (A6 (As (As (An (A0 (Ad _ [3,0] Z (BI (rI) AQ Bh BA Ac fun v30 w30 an d3 ca=>?_)))))))))
   have cb:=an.size
   have cc:=a9.trans an
   have a6:=a3.ext (o2) an
   refine Ae 1 Z (A0 (A0 (Ad _ [0] Z (Ae 1 Z (A5 ?_)))))
   have hsome:=RW hJ.out oM
   refine AN (S:=Nat×Value) (fun⟨k,vo⟩=>([(11,vo),(12,(.int .i64 ((k:Nat):Int))),(5,a0)])) (fun⟨k,vo⟩ W=>Az w W∧Fr (AS rI 2) w10.heap.size W.heap.size W.heap vo ((M.take k).map (fun r=>r.getD a.length 0))∧Fr (AS (AS rI 2) 27) w.heap.size w10.heap.size W.heap a0 M∧k≤a.length∧w10.heap.size≤W.heap.size) (fun⟨k,vo⟩=>a.length-k) (0,v30) ⟨rfl,rfl,rfl,trivial⟩ ⟨cc,ca.up o1,a6,sD,oM⟩ ?_
   clear a3 ca d3 an cb cc a6
   rintro⟨k,vo⟩ ρ31 w31 ⟨b3,ag,a4,d4,dn⟩
   have dp:w.heap.size≤w31.heap.size:=b3.size
   refine A0 (A0 (Ad _ [0,0,0,0] Z (Af 2 Z (AJ (v:=a0) Bi Z a4.isSl Ac ?_))))
   by_cases cd:((k:Nat):Int)<((M.length:Nat):Int)
   ·refine Ax true Z Z (A7 cd) Ac (Ah (Ai Z (A4 (A0 (A5 (Ad _ [0,0,0,0,2,0,0,0,2,3,4,0] Z ?_))))))
    have hrk:=(hSM.row k oM).len
    refine Af 3 Z (Au (v:=a0) k Bi AX Z Z a4.isSl Z sD Ac ?_)
    obtain⟨b4,ce,ao⟩:=a4.rd2.get (k:=k) [] sD
    have dq:=ao.lenle
    refine Ak (p:=Aw a0 k 1) (.inr Z) b4 B6 Z ce Ac (Af 1 Z (AJ (v:=a0) Bi Z a4.isSl Ac (Au (v:=b4) M.length Bh BA Z Z ao.isSl Z sD Ac ?_)))
    refine Ak (p:=Aw b4 M.length 1) (.inr Z) (.int .i64 ((M.getD k []).getD M.length 0)) AH Z (ao.getI sD).1 Ac ?_
    refine Bq (u:=(.int .i64 ((M.getD k []).getD M.length 0))) (B:=w31.heap.size) AQ Bh BA Z Z (N6 w31.heap.size w31.heap.size _ _ (ao.getI sD).2) (A9 _) Ac fun v35 w35 ah e8 cf=>?_
    have dr:=ah.size
    have cg:=b3.trans ah
    have aa:=ag.ext (o1) ah
    have ab:=a4.ext (o2) ah
    have ds:=AP ah ce
    refine GA (v:=vo) (a:=v35) Bh BA Z Z Z aa oM cf.rd1 sD (by unfold maxLen;first|omega|assumption|(simp;done)|(simp;omega)) Ac fun v37 w37 F37 ap b5 d5=>?_
    have d6:Az w w37:=ap.below cg (fun c hc=>Aa a9.size (b5 c hc).1) cg.size
    have dt:=ap.size
    have d7:=ab.chg (o2) ap (fun c hc=>by have:=b5 c hc;omega)
    have e9:=cf.chg (o1) ap (fun c hc=>by have:=b5 c hc;omega)
    refine Ae 1 Z (Ad _ [0,0,0] Z (Af 1 Z (AI ((k+1:Nat):Int) Z Z (B8 oM sD) Ac (Ae 1 Z ?_))))
    exact⟨((k+1),v37),_,rfl,⟨rfl,rfl,rfl,trivial⟩,⟨d6,(by have h:=d5.up o1;rw[hlM]at h;rw[Du [] oM];exact h),d7,sD,oM⟩,by first|omega|(dsimp only;omega)⟩
   ·exact Ax false Z Z (A8 cd) Ac (Ah (Aj Z (A6 (As (As (An (A0 (Ad _ [0,0] Z (Ae 2 Z (A3 (Ag [4] Z vo Z ⟨vo,rfl,b3,(by have h:=(ag.up o1).low a9.size;rw[List.take_of_length_le oM]at h;rw[Ol hsome];exact h)⟩)))))))))))
end
section
set_option maxHeartbeats 4000000
set_option maxRecDepth 100000
attribute [local irreducible] LW
theorem MO (w:World)(n:Nat)(k:Int)(_hn:n≤1000000000000)(_hk:BC k)(hn:n≤1000)(hk:0≤k∧k<(n:Int)) :
  Calls Tryz.prog 172 #[.int .i64 ((n:Nat):Int),.int .i64 k] w (fun e w'=>∃v0:Value,e=.returned (v0)∧Az w w'∧Fr (AS rI 2) w.heap.size w'.heap.size w'.heap v0 (uN n k.toNat)):=by
 refine At [.int .i64 ((n:Nat):Int),.int .i64 k] 12 Tryz.func172 Z Z sM ?_
 have a4:Az w w:=Az.refl w
 refine A0 (Ad _ [0] Z (Ae 1 Z (A0 (Ad _ [0,3,0] Z (Af 1 Z (EF (n:=n) Bh BA Z Z Z sD Ac fun v1 w1 a0 aa a1=>?_))))))
 have a5:=a0.size
 have a2:=a4.trans a0
 refine Ae 1 Z (A0 (Ad _ [0,0,0,4] Z (Af 2 Z (Au (v:=v1) ((k).toNat) Bh BA Z Z a1.isSl oM sD Ac ?_))))
 refine Fk (v:=v1) (w:=w1) ID Z Z oM a1 sD Ac fun w2 F2 a3 ab a6 a7=>?_
 have a8:Az w w2:=a3.below a2 (fun c hc=>Aa (A9 _) (a6 c hc).1) a2.size
 have a9:=a3.size
 exact Ah (A0 (Ad _ [0,0] Z (Ae 2 Z (A3 (Ag [4] Z v1 Z ⟨v1,rfl,a8,(by exact a7.up o1)⟩)))))
end
section
set_option maxHeartbeats 4000000
set_option maxRecDepth 100000
attribute [local irreducible] LW
theorem Nq (w:World)(a:Int)(b:Int)(_ha:BC a)(_hb:BC b)  :
  Calls Tryz.prog 252 #[.int .i64 a,.int .i64 b] w (fun e w'=>e=.returned (.int .i64 (max a b))∧w'=w):=by
 refine At [.int .i64 a,.int .i64 b] 10 Tryz.func252 Z Z sM ?_
 have a0:w=w:=rfl
 refine A0 (Ad _ [0] Z (Ae 1 Z (A0 (A0 (Ad _ [0,0,0] Z (Af 2 Z ?_))))))
 by_cases a1:b<a
 ·exact C6 true Z Z (A7 a1) Ac (Ah (Ai Z (A0 (Ad _ [0,0] Z (Ae 2 Z (A3 (Aq (Ag [4] Z (.int .i64 a) Z ⟨(AV oM),a0⟩))))))))
 ·exact C6 false Z Z (A8 a1) Ac (Ah (Aj Z (A4 (A0 (Ad _ [0,0] Z (Ae 2 Z (A3 (Ag [4] Z (.int .i64 b) Z ⟨(AV oM),a0⟩))))))))
theorem XC {p:Prop}(h:p:=by rw[Ys,hx];first|rw[List.take_of_length_le oM]|exact(NT oM).symm):p:=h
theorem Ic (w:World)(dex:Nat)(ve:Value)(ex:Ex)(left:Int)(hex:RN [] (rP (Iv dex)) w.heap ve ex)(_hleft:BC left)(af:0≤left∧left≤100000)(hs:ex.size≤1000000000) :
  Calls Tryz.prog 235 #[ve,.int .i64 left] w (fun e w'=>e=.returned (.int .i64 (IA ex left))∧Az w w'):=by
 induction dex using Nat.strongRecOn generalizing w ve ex left
 rename_i dex ih
 refine At [ve,.int .i64 left] 30 Tryz.func235 Z Z sM ?_
 have a6:Az w w:=Az.refl w
 have hsk:=Cb ex
 refine A0 (Ad _ [0] Z (Ae 1 Z (A0 (Ad _ [0,0,0] Z (Af 1 Z (Cy (left-1) Z Z (FR oM oM) Ac (Ae 1 Z (A0 (A0 (Ad _ [0] Z (Ae 1 Z (A5 ?_))))))))))))
 refine AN (S:=Nat×Int) (fun⟨k,x⟩=>([(1,(.int .i64 x)),(5,(.int .i64 ((k:Nat):Int))),(0,ve)])) (fun⟨k,x⟩ W=>Az w W∧k≤ex.kids.length∧x=Dh (ex.kids.take k) (left-1)∧(-1≤x∧x≤left)) (fun⟨k,x⟩=>ex.kids.length-k) (0,(left-1)) ⟨rfl,rfl,rfl,trivial⟩ ⟨a6,sD,(by rw[List.take_zero,Dh]),oM⟩ ?_
 clear a6
 rintro⟨k,x⟩ ρ1 w1 ⟨a0,a7,hx,a8⟩
 have ab:w.heap.size≤w1.heap.size:=a0.size
 refine A0 (A0 (Ad _ [0,0,0,0,2,0,0,0,0,0,0] Z (Af 2 Z (AU (hex.isPtr) Z Ac ?_))))
 obtain⟨cs2,ac,a2⟩:=RN.at (AC _) hex
 obtain⟨dd2,a1,ag,rfl,a3⟩:=RX.of ac
 have a4:=a3.rn.lenle
 unfold maxLen at a4
 refine AM (p:=ve) 4 Bo Z (a2 _ (AE.of_ext [] a0)) Ac (Ak (p:=(Ay ve 4)) (.inr Z) a1 Bp Z ((a2 _ (AE.of_ext [] a0)).ld (i:=4) (by simp[FL,FM])) Ac (AJ (v:=a1) DK Z a3.rn.isSl Ac ?_))
 by_cases a9:((k:Nat):Int)<((ex.kids.length:Nat):Int)
 ·refine Ax true Z Z (A7 a9) Ac (Af 2 Z ?_)
  by_cases aa:((0:Nat):Int)≤x
  ·refine Gq true Z Z (A7 aa) (Al (e:=15) Z Z Z) (Ae 1 Z (Ai Z (A4 (A0 (A5 (Ad _ [0,0,0,2,0,0,0,3,0] Z ?_))))))
   have hst:=D3 (l:=ex.kids) (k:=k) oM
   have hle:=CO ex.kids (k+1)
   have hnx:=NS (l:=ex.kids) (k:=k) (x:=left-1) oM oM
   have hnr:=PS (e:=ex.kids.getD k Ex.zero) (x:=x) oM
   refine Af 1 Z (AU (hex.isPtr) Z Ac (AM (p:=ve) 4 Bo Z (a2 _ (AE.of_ext [] a0)) Ac (Ak (p:=(Ay ve 4)) (.inr Z) a1 Bp Z ((a2 _ (AE.of_ext [] a0)).ld (i:=4) (by simp[FL,FM])) Ac (Af 1 Z (Au (v:=a1) k DK BB Z Z a3.rn.isSl Z sD Ac (Af 1 Z ?_))))))
   refine Ap 235 [] [] [(Aw a1 k 5),(.int .i64 x)] Z Z Xf Ac (ih dd2 oM _ (Aw a1 k 5) (ex.kids.getD k Ex.zero) _ (RN.ptr (AC dd2) (by decide) Ex.zero (a3.rn.ext (Am (AC dd2)) a0) sD) oM oM oM) ?_
   rintro e5 w5 ⟨rfl,a5⟩
   refine⟨_,rfl,a5,?_⟩
   have ad:=a5.size
   have ae:=a0.trans a5
   refine Ae 1 Z (Ad _ [0,0,0] Z (Af 1 Z (AI ((k+1:Nat):Int) Z Z (B8 oM sD) Ac (Ae 1 Z ?_))))
   exact⟨((k+1),(IA (ex.kids.getD k Ex.zero) x)),_,rfl,⟨rfl,rfl,rfl,trivial⟩,⟨ae,sD,(by rw[hnx,hx]),oM⟩,by first|omega|(dsimp only;omega)⟩
  ·exact Gq false Z Z (A8 aa) (Al (e:=15) Z Z Z) (Ae 1 Z (Aj Z (A6 (As (As (An (A0 (Ad _ [0,0] Z (Ae 2 Z (A3 (Ag [4] Z (.int .i64 x) Z ⟨(AV XC),a0⟩)))))))))))
 ·exact Ax false Z Z (A8 a9) Ac (Ae 4 Z (Aj Z (A6 (As (As (An (A0 (Ad _ [0,0] Z (Ae 2 Z (A3 (Ag [4] Z (.int .i64 x) Z ⟨(AV XC),a0⟩)))))))))))
theorem La (w:World)(dex:Nat)(ve:Value)(ex:Ex)(hex:RN [] (rP (Iv dex)) w.heap ve ex)(hs:ex.size≤1000000000) :
  Calls Tryz.prog 246 #[ve] w (fun e w'=>e=.returned (.int .i64 ((ex.deep:Nat):Int))∧Az w w'):=by
 induction dex using Nat.strongRecOn generalizing w ve ex
 rename_i dex ih
 refine At [ve] 25 Tryz.func246 Z Z sM ?_
 have a6:Az w w:=Az.refl w
 have hsk:=Cb ex
 have hdk:=EG ex
 refine A0 (Ad _ [0] Z (Ae 1 Z (A0 (Ad _ [0] Z (Ae 1 Z (A0 (A0 (Ad _ [0] Z (Ae 1 Z (A5 ?_))))))))))
 refine AN (S:=Nat×Int) (fun⟨k,sz⟩=>([(3,(.int .i64 sz)),(4,(.int .i64 ((k:Nat):Int))),(0,ve)])) (fun⟨k,sz⟩ W=>Az w W∧k≤ex.kids.length∧sz=((Ex.deeps (ex.kids.take k):Nat):Int)∧(0≤sz∧sz≤1000000000)) (fun⟨k,sz⟩=>ex.kids.length-k) (0,((0:Nat):Int)) ⟨rfl,rfl,rfl,trivial⟩ ⟨a6,sD,(by rw[List.take_zero,NC] <;> rfl),oM⟩ ?_
 clear a6
 rintro⟨k,sz⟩ ρ1 w1 ⟨a0,a7,hsz,a8⟩
 have aa:w.heap.size≤w1.heap.size:=a0.size
 refine A0 (A0 (Ad _ [0,0,0,0,2,0,0] Z (Af 2 Z (AU (hex.isPtr) Z Ac ?_))))
 obtain⟨cs2,ab,a2⟩:=RN.at (AC _) hex
 obtain⟨dd2,a1,ae,rfl,a3⟩:=RX.of ab
 have a4:=a3.rn.lenle
 unfold maxLen at a4
 refine AM (p:=ve) 4 Bo Z (a2 _ (AE.of_ext [] a0)) Ac (Ak (p:=(Ay ve 4)) (.inr Z) a1 Bp Z ((a2 _ (AE.of_ext [] a0)).ld (i:=4) (by simp[FL,FM])) Ac (AJ (v:=a1) DK Z a3.rn.isSl Ac ?_))
 by_cases a9:((k:Nat):Int)<((ex.kids.length:Nat):Int)
 ·refine Ax true Z Z (A7 a9) Ac (Ah (Ai Z (A4 (A0 (A5 (Ad _ [0,0,0,0,2,0,0,3,0,0] Z ?_))))))
  have hst:=D3 (l:=ex.kids) (k:=k) oM
  have hle:=CO ex.kids (k+1)
  have hdt:=Hj (l:=ex.kids) (k:=k) oM
  have hda:=EH (ex.kids.getD k Ex.zero)
  have hdz:=J1 (ex.kids.take k)
  refine Af 2 Z (AU (hex.isPtr) Z Ac (AM (p:=ve) 4 Bo Z (a2 _ (AE.of_ext [] a0)) Ac (Ak (p:=(Ay ve 4)) (.inr Z) a1 Bp Z ((a2 _ (AE.of_ext [] a0)).ld (i:=4) (by simp[FL,FM])) Ac (Af 1 Z (Au (v:=a1) k DK BB Z Z a3.rn.isSl Z sD Ac ?_)))))
  refine Ap 246 [] [] [(Aw a1 k 5)] Z Z aQ Ac (ih dd2 oM _ (Aw a1 k 5) (ex.kids.getD k Ex.zero) (RN.ptr (AC dd2) (by decide) Ex.zero (a3.rn.ext (Am (AC dd2)) a0) sD) oM) ?_
  rintro e4 w4 ⟨rfl,a5⟩
  refine⟨_,rfl,a5,?_⟩
  have ac:=a5.size
  have ad:=a0.trans a5
  refine AD 252 [] [] [(.int .i64 sz),(.int .i64 (((ex.kids.getD k Ex.zero).deep:Nat):Int))] Z Z iQ Ac (.int .i64 (max sz (((ex.kids.getD k Ex.zero).deep:Nat):Int))) (fun wq=>Nq wq _ _ oM (by have:=EH (ex.kids.getD k Ex.zero);omega)) (Ae 1 Z (Ad _ [0,0,0] Z (Af 1 Z (AI ((k+1:Nat):Int) Z Z (B8 oM sD) Ac (Ae 1 Z ?_)))))
  exact⟨((k+1),(max sz (((ex.kids.getD k Ex.zero).deep:Nat):Int))),_,rfl,⟨rfl,rfl,rfl,trivial⟩,⟨ad,sD,oM,oM⟩,by first|omega|(dsimp only;omega)⟩
 ·refine Ax false Z Z (A8 a9) Ac (Ah (Aj Z (A6 (As (As (An (A0 (Ad _ [0,0,0] Z ?_))))))))
  have h8:=Kj (l:=ex.kids) (k:=k) oM
  have h9:=EH ex
  exact Af 1 Z (AI (sz+1) Z Z (FR oM oM) Ac (Ae 1 Z (A3 (Ag [2] Z (.int .i64 (sz+1)) Z ⟨(AV oM),a0⟩))))
theorem GJ {p:Prop}(h:p:=by unfold Tt;repeat (first|rfl|(rw[if_pos oM])|(rw[if_neg oM]))):p:=h
theorem MP (w:World)(kind:Int)(_hkind:BC kind)  :
  Calls Tryz.prog 202 #[.int .i64 kind] w (fun e w'=>e=.returned (.int .i64 (Tt kind))∧w'=w):=by
 refine At [.int .i64 kind] 17 Tryz.func202 Z Z sM ?_
 have a0:w=w:=rfl
 refine A0 (Ad _ [0] Z (Ae 1 Z (A0 (A0 (Ad _ [0] Z (Ae 1 Z (A5 (A0 (A0 (Ad _ [0,0] Z ?_))))))))))
 by_cases a1:kind=((1:Nat):Int)
 ·exact AA true Z Z (A7 a1) Ac (Ae 1 Z (Ai Z (A4 (Ai Z (A0 (Ad _ [0] Z (Ae 1 Z (A3 (AL (Aq (Ag [2] Z (.int .i64 ((0:Nat):Int)) Z ⟨(AV GJ),a0⟩)))))))))))
 ·refine AA false Z Z (A8 a1) Ac (Ae 1 Z (Aj Z (Ad _ [0,0] Z ?_)))
  by_cases a2:kind=((2:Nat):Int)
  ·exact AA true Z Z (A7 a2) Ac (Ae 1 Z (Ai Z (A0 (Ad _ [0] Z (Ae 1 Z (A3 (AL (Aq (Ag [2] Z (.int .i64 ((0:Nat):Int)) Z ⟨(AV GJ),a0⟩)))))))))
  ·refine AA false Z Z (A8 a2) Ac (Ae 1 Z (Aj Z (A0 (A0 (Ad _ [0,0] Z ?_)))))
   by_cases a3:kind=((3:Nat):Int)
   ·exact AA true Z Z (A7 a3) Ac (Ae 1 Z (Ai Z (A4 (Ai Z (A0 (Ad _ [0] Z (Ae 1 Z (A3 (AL (Aq (Ag [2] Z (.int .i64 ((2:Nat):Int)) Z ⟨(AV GJ),a0⟩)))))))))))
   ·refine AA false Z Z (A8 a3) Ac (Ae 1 Z (Aj Z (A0 (Ad _ [0,0] Z ?_))))
    by_cases a4:kind=((4:Nat):Int)
    ·exact AA true Z Z (A7 a4) Ac (Ae 1 Z (Ai Z (A4 (Ai Z (A0 (Ad _ [0] Z (Ae 1 Z (A3 (AL (Aq (Ag [2] Z (.int .i64 ((2:Nat):Int)) Z ⟨(AV GJ),a0⟩)))))))))))
    ·refine AA false Z Z (A8 a4) Ac (Ae 1 Z (Aj Z (A0 (Ad _ [0,0] Z ?_))))
     by_cases a5:kind=((5:Nat):Int)
     ·exact AA true Z Z (A7 a5) Ac (Ae 1 Z (Ai Z (A4 (Ai Z (A0 (Ad _ [0] Z (Ae 1 Z (A3 (AL (Aq (Ag [2] Z (.int .i64 ((2:Nat):Int)) Z ⟨(AV GJ),a0⟩)))))))))))
     ·refine AA false Z Z (A8 a5) Ac (Ae 1 Z (Aj Z (A0 (Ad _ [0,0] Z ?_))))
      by_cases a6:kind=((6:Nat):Int)
      ·exact AA true Z Z (A7 a6) Ac (Ae 1 Z (Ai Z (A4 (Ai Z (A0 (Ad _ [0] Z (Ae 1 Z (A3 (AL (Aq (Ag [2] Z (.int .i64 ((2:Nat):Int)) Z ⟨(AV GJ),a0⟩)))))))))))
      ·refine AA false Z Z (A8 a6) Ac (Ae 1 Z (Aj Z (Ad _ [0,0] Z ?_)))
       by_cases a7:kind=((9:Nat):Int)
       ·exact AA true Z Z (A7 a7) Ac (Ae 1 Z (Ai Z (A0 (Ad _ [0] Z (Ae 1 Z (A3 (AL (Aq (Ag [2] Z (.int .i64 ((2:Nat):Int)) Z ⟨(AV GJ),a0⟩)))))))))
       ·refine AA false Z Z (A8 a7) Ac (Ae 1 Z (Aj Z (A0 (Ad _ [0,0] Z ?_))))
        by_cases a8:kind=((7:Nat):Int)
        ·exact AA true Z Z (A7 a8) Ac (Ae 1 Z (Ai Z (A0 (Ad _ [0] Z (Ae 1 Z (A3 (AL (Aq (Ag [2] Z (.int .i64 ((1:Nat):Int)) Z ⟨(AV GJ),a0⟩)))))))))
        ·refine AA false Z Z (A8 a8) Ac (Ae 1 Z (Aj Z (A0 (Ad _ [0,0] Z ?_))))
         by_cases a9:kind=((8:Nat):Int)
         ·exact AA true Z Z (A7 a9) Ac (Ae 1 Z (Ai Z (A0 (Ad _ [0] Z (Ae 1 Z (A3 (AL (Aq (Ag [2] Z (.int .i64 ((3:Nat):Int)) Z ⟨(AV GJ),a0⟩)))))))))
         ·exact AA false Z Z (A8 a9) Ac (Ae 1 Z (Aj Z (A4 (A0 (Ad _ [0] Z (Ae 1 Z (A3 (Ag [2] Z (.int .i64 (-1)) Z ⟨(AV GJ),a0⟩))))))))
theorem Dj {p:Prop}(h:p:=by first|exact AG (dF oM oM oM)|exact AG (kD oM oM oM oM)|exact AG (kE oM oM oM oM)|exact AG ((Oz oM).trans (kF oM oM oM oM oM oM oM))|exact AG (by unfold Kn Fp Hm;first|(simp[*];done)|(simp[*];omega)|(simp[*] <;> intros <;> omega)|(simp_all;done)|(simp_all <;> omega))):p:=h
theorem BP {p:Prop}(h:p:=by simp[FL,FM]):p:=h
theorem MQ (w:World)(dp:Nat)(vp:Value)(p:List Fn)(dex:Nat)(ve:Value)(ex:Ex)(vars:Int)(funcs:Int)(hp:RN [] (rP (N7 dp)) w.heap vp p)(hex:RN [] (rP (Iv dex)) w.heap ve ex)(_hvars:BC vars)(_hfuncs:BC funcs)(hv:0≤vars∧vars≤2000000000)(hf:0≤funcs∧funcs≤((p.length:Nat):Int)) :
  Calls Tryz.prog 253 #[vp,ve,.int .i64 vars,.int .i64 funcs] w (fun e w'=>e=.returned (.bool (Kn p funcs vars ex))∧Az w w'):=by
 refine At [vp,ve,.int .i64 vars,.int .i64 funcs] 140 Tryz.func253 Z Z sM ?_
 have a0:Az w w:=Az.refl w
 refine A0 (Ad _ [0] Z (Ae 1 Z (A0 (A0 (Ad _ [0,0,0,2,0,0,0,0,0,2,0,0] Z (Af 1 Z (AU (hex.isPtr) Z Ac ?_)))))))
 obtain⟨cs1,b2,a1⟩:=RN.at (AC _) hex
 obtain⟨dd1,ab,b8,rfl,a5⟩:=RX.of b2
 have aq:=a5.rn.lenle
 unfold maxLen at aq
 refine AM (p:=ve) 0 C5 Z (a1 _ (AE.of_ext [] a0)) Ac (Ak (p:=(Ay ve 0)) (.inr Z) (.int .i64 ex.kind) AH Z ((a1 _ (AE.of_ext [] a0)).ld (i:=0) BP) Ac ?_)
 by_cases ay:ex.kind=((10:Nat):Int)
 ·refine AA true Z Z (A7 ay) Ac (Ae 7 Z (Ai Z (A0 (A0 (Ad _ [0,0,0,2,0,0,0,0] Z (Af 1 Z (AU (hex.isPtr) Z Ac (AM (p:=ve) 1 BT Z (a1 _ (AE.of_ext [] a0)) Ac (Ak (p:=(Ay ve 1)) (.inr Z) (.int .i64 ex.num) AH Z ((a1 _ (AE.of_ext [] a0)).ld (i:=1) BP) Ac (Af 1 Z (Cy (funcs-1) Z Z (FR oM oM) Ac (AD 92 [] [] [(.int .i64 ex.num),(.int .i64 ((0:Nat):Int)),(.int .i64 (funcs-1))] Z Z IC Ac (.bool (decide (((0:Nat):Int)≤ex.num) && decide (ex.num≤(funcs-1)))) (fun wq=>Br wq _ _ _ a5.rng.num oM oM) ?_))))))))))))
  refine Bn (!(decide (((0:Nat):Int)≤ex.num) && decide (ex.num≤(funcs-1)))) Z Z Ac (Ah ?_)
  cases az:(!(decide (((0:Nat):Int)≤ex.num) && decide (ex.num≤(funcs-1))))
  ·refine Aj (by first|rfl|(show Value.bool _=_;rw[az])) (A4 (A0 (AY _ [0,0,0,1,0,0,0,1,0,0] mixed (by kernel_rfl) ?_)))
   have hnr:=I9 (Ez (by assumption):(decide (((0:Nat):Int)≤ex.num) && decide (ex.num≤funcs-1))=true)
   refine Af 1 Z (AU (hp.isPtr) Z Ac ?_)
   obtain⟨cs5,b3,b0⟩:=RN.at (B4 _) hp
   obtain⟨a6,rfl,a9⟩:=RPr.of b3
   have ar:=a9.lenle
   unfold maxLen at ar
   refine AM (p:=vp) 0 BM Z (b0 _ (AE.of_ext [] a0.drew)) Ac (Ak (p:=(Ay vp 0)) (.inl Z) a6 Cs Z ((b0 _ (AE.of_ext [] a0.drew)).ld (i:=0) BP) Ac (Af 1 Z (AU (hex.isPtr) Z Ac (AM (p:=ve) 1 BT Z (a1 _ (AE.of_ext [] a0.drew)) Ac (Ak (p:=(Ay ve 1)) (.inl Z) (.int .i64 ex.num) AH Z ((a1 _ (AE.of_ext [] a0.drew)).ld (i:=1) BP) Ac ?_)))))
   refine Au (v:=a6) ((ex.num).toNat) Gm CA Z Z a9.isSl oM sD Ac (Ae 1 Z (A0 (A0 (AY _ [0,0,0,1,0,0,0,1,0,0,0,0,0,0,0,0,1,0,0,0,0,1,0,0] mixed (by kernel_rfl) (Af 1 Z (AU (hex.isPtr) Z Ac (AM (p:=ve) 2 Dn Z (a1 _ (AE.of_ext [] a0.drew.drew)) Ac ?_)))))))
   refine Ak (p:=(Ay ve 2)) (.inl Z) (.int .i64 ex.pick) AH Z ((a1 _ (AE.of_ext [] a0.drew.drew)).ld (i:=2) BP) Ac (Af 1 Z (AU (RN.isPtr (RN.ptr (AB dp) (by decide) Fn.zero a9 sD)) Z Ac ?_))
   obtain⟨cs6,b4,a8⟩:=a9.get (AB dp) Fn.zero (k:=((ex.num).toNat)) sD
   obtain⟨ap,rfl,au⟩:=RF.of b4
   have av:=au.rn.lenle
   unfold maxLen at av
   refine AM (p:=Aw a6 ((ex.num).toNat) 3) 2 Cu Z (a8 _ (AE.of_ext [] a0.drew.drew)) Ac (Ak (p:=(Ay (Aw a6 ((ex.num).toNat) 3) 2)) (.inl Z) ap Bp Z ((a8 _ (AE.of_ext [] a0.drew.drew)).ld (i:=2) BP) Ac (AJ (v:=ap) DK Z au.rn.isSl Ac (Cy ((((p.getD (ex.num).toNat Fn.zero).outs.length:Nat):Int)-1) Z Z (FR oM oM) Ac (AD 92 [] [] [(.int .i64 ex.pick),(.int .i64 ((0:Nat):Int)),(.int .i64 ((((p.getD (ex.num).toNat Fn.zero).outs.length:Nat):Int)-1))] Z Z IC Ac (.bool (decide (((0:Nat):Int)≤ex.pick) && decide (ex.pick≤((((p.getD (ex.num).toNat Fn.zero).outs.length:Nat):Int)-1)))) (fun wq=>Br wq _ _ _ a5.rng.pick oM oM) ?_))))
   refine Bn (!(decide (((0:Nat):Int)≤ex.pick) && decide (ex.pick≤((((p.getD (ex.num).toNat Fn.zero).outs.length:Nat):Int)-1)))) Z Z Ac (Af 1 Z ?_)
   cases b9:(!(decide (((0:Nat):Int)≤ex.pick) && decide (ex.pick≤((((p.getD (ex.num).toNat Fn.zero).outs.length:Nat):Int)-1))))
   ·refine Af 1 Z (AU (hex.isPtr) Z (Al (e:=51) Z Z Z) (AM (p:=ve) 4 Bo Z (a1 _ (AE.of_ext [] a0.drew.drew)) (Al (e:=51) Z Z Z) (Ak (p:=(Ay ve 4)) (.inl Z) ab Bp Z ((a1 _ (AE.of_ext [] a0.drew.drew)).ld (i:=4) BP) (Al (e:=51) Z Z Z) (AJ (v:=ab) DK Z a5.rn.isSl (Al (e:=51) Z Z Z) (Af 1 Z ?_)))))
    refine AU (RN.isPtr (RN.ptr (AB dp) (by decide) Fn.zero a9 sD)) Z (Al (e:=51) Z Z Z) (AM (p:=Aw a6 ((ex.num).toNat) 3) 1 Cw Z (a8 _ (AE.of_ext [] a0.drew.drew)) (Al (e:=51) Z Z Z) (Ak (p:=(Ay (Aw a6 ((ex.num).toNat) 3) 1)) (.inl Z) (.int .i64 ((p.getD ((ex.num).toNat) Fn.zero).params)) AH Z ((a8 _ (AE.of_ext [] a0.drew.drew)).ld (i:=1) BP) (Al (e:=51) Z Z Z) ?_))
    by_cases b1:((ex.kids.length:Nat):Int)≠(p.getD ((ex.num).toNat) Fn.zero).params
    ·exact AZ true Z Z (A7 b1) (Al (e:=51) Z Z Z) (Ae 1 Z (Ai Z (A0 (Ad _ [0] Z (Ae 1 Z (A3 (Aq (Aq (Ag [8] Z (.bool false) Z ⟨Dj,a0.drew.drew⟩)))))))))
    ·refine AZ false Z Z (A8 b1) (Al (e:=51) Z Z Z) (Ae 1 Z (Aj Z (A4 (A0 (A0 (Ad _ [0,0,0,2,0] Z (Af 1 Z (AU (hex.isPtr) Z Ac (AM (p:=ve) 0 C5 Z (a1 _ (AE.of_ext [] a0.drew.drew)) Ac (Ak (p:=(Ay ve 0)) (.inr Z) (.int .i64 ex.kind) AH Z ((a1 _ (AE.of_ext [] a0.drew.drew)).ld (i:=0) BP) Ac ?_))))))))))
     by_cases ac:ex.kind=((10:Nat):Int)
     ·refine AA true Z Z (A7 ac) Ac (Ah (Ai Z (A0 (Ad _ [0,0,0,2,0,0] Z (Af 1 Z (AU (hex.isPtr) Z Ac (AM (p:=ve) 3 D9 Z (a1 _ (AE.of_ext [] a0.drew.drew)) Ac (Ak (p:=(Ay ve 3)) (.inr Z) (.int .i64 ex.count) AH Z ((a1 _ (AE.of_ext [] a0.drew.drew)).ld (i:=3) BP) Ac (AA (decide (ex.count=((0:Nat):Int))) Z Z Z Ac (Ae 1 Z (A3 (Aq (Aq ?_)))))))))))))
      exact Ag [8] Z (.bool (decide (ex.count=((0:Nat):Int)))) Z ⟨Dj,a0.drew.drew⟩
     ·refine AA false Z Z (A8 ac) Ac (Ah (Aj Z (A4 (A0 (AY _ [0,0,0,1,0,0,0,0,0,1,0,0,0,0,1,0,0,0] mixed (by kernel_rfl) (Af 1 Z (AU (hex.isPtr) Z Ac (AM (p:=ve) 3 D9 Z (a1 _ (AE.of_ext [] a0.drew.drew.drew)) Ac (Ak (p:=(Ay ve 3)) (.inl Z) (.int .i64 ex.count) AH Z ((a1 _ (AE.of_ext [] a0.drew.drew.drew)).ld (i:=3) BP) Ac (AD 92 [] [] [(.int .i64 ex.count),(.int .i64 ((0:Nat):Int)),(.int .i64 ((8:Nat):Int))] Z Z IC Ac (.bool (decide (((0:Nat):Int)≤ex.count) && decide (ex.count≤((8:Nat):Int)))) (fun wq=>Br wq _ _ _ a5.rng.count oM oM) (Af 1 Z ?_)))))))))))
      cases b5:(decide (((0:Nat):Int)≤ex.count) && decide (ex.count≤((8:Nat):Int)))
      ·exact Ae 12 Z (A3 (Aq (Ag [8] Z (.bool false) Z ⟨Dj,a0.drew.drew.drew⟩)))
      ·refine Af 1 Z (AU (RN.isPtr (RN.ptr (AB dp) (by decide) Fn.zero a9 sD)) Z (Al (e:=78) Z Z Z) (AM (p:=Aw a6 ((ex.num).toNat) 3) 2 Cu Z (a8 _ (AE.of_ext [] a0.drew.drew.drew)) (Al (e:=78) Z Z Z) (Ak (p:=(Ay (Aw a6 ((ex.num).toNat) 3) 2)) (.inl Z) ap Bp Z ((a8 _ (AE.of_ext [] a0.drew.drew.drew)).ld (i:=2) BP) (Al (e:=78) Z Z Z) ?_)))
       refine AJ (v:=ap) DK Z au.rn.isSl (Al (e:=78) Z Z Z) (Af 1 Z (AU (RN.isPtr (RN.ptr (AB dp) (by decide) Fn.zero a9 sD)) Z (Al (e:=78) Z Z Z) (AM (p:=Aw a6 ((ex.num).toNat) 3) 1 Cw Z (a8 _ (AE.of_ext [] a0.drew.drew.drew)) (Al (e:=78) Z Z Z) ?_)))
       refine Ak (p:=(Ay (Aw a6 ((ex.num).toNat) 3) 1)) (.inl Z) (.int .i64 ((p.getD ((ex.num).toNat) Fn.zero).params)) AH Z ((a8 _ (AE.of_ext [] a0.drew.drew.drew)).ld (i:=1) BP) (Al (e:=78) Z Z Z) (AA (decide (((((p.getD ((ex.num).toNat) Fn.zero).outs).length:Nat):Int)=(p.getD ((ex.num).toNat) Fn.zero).params)) Z Z Z (Al (e:=78) Z Z Z) (Ae 2 Z (A3 (Aq ?_))))
       exact Ag [8] Z (.bool (decide (((((p.getD ((ex.num).toNat) Fn.zero).outs).length:Nat):Int)=(p.getD ((ex.num).toNat) Fn.zero).params))) Z ⟨Dj,a0.drew.drew.drew⟩
   ·exact Ae 11 Z (Ai Z (A0 (Ad _ [0] Z (Ae 1 Z (A3 (Aq (Aq (Ag [8] Z (.bool false) Z ⟨Dj,a0.drew.drew⟩))))))))
  ·exact Ai (by first|rfl|(show Value.bool _=_;rw[az])) (A0 (Ad _ [0] Z (Ae 1 Z (A3 (Aq (Aq (Ag [8] Z (.bool false) Z ⟨Dj,a0⟩)))))))
 ·refine AA false Z Z (A8 ay) Ac (Af 2 Z (AU (hex.isPtr) Z (Al (e:=15) Z Z Z) (AM (p:=ve) 0 C5 Z (a1 _ (AE.of_ext [] a0)) (Al (e:=15) Z Z Z) (Ak (p:=(Ay ve 0)) (.inr Z) (.int .i64 ex.kind) AH Z ((a1 _ (AE.of_ext [] a0)).ld (i:=0) BP) (Al (e:=15) Z Z Z) ?_))))
  by_cases ad:ex.kind=((11:Nat):Int)
  ·refine AA true Z Z (A7 ad) (Al (e:=15) Z Z Z) (Ae 1 Z (Ai Z (A0 (A0 (Ad _ [0,0,0,2,0,0,0,0] Z (Af 1 Z (AU (hex.isPtr) Z Ac (AM (p:=ve) 1 BT Z (a1 _ (AE.of_ext [] a0)) Ac (Ak (p:=(Ay ve 1)) (.inr Z) (.int .i64 ex.num) AH Z ((a1 _ (AE.of_ext [] a0)).ld (i:=1) BP) Ac (Af 1 Z (Cy (funcs-1) Z Z (FR oM oM) Ac (AD 92 [] [] [(.int .i64 ex.num),(.int .i64 ((0:Nat):Int)),(.int .i64 (funcs-1))] Z Z IC Ac (.bool (decide (((0:Nat):Int)≤ex.num) && decide (ex.num≤(funcs-1)))) (fun wq=>Br wq _ _ _ a5.rng.num oM oM) ?_))))))))))))
   refine Bn (!(decide (((0:Nat):Int)≤ex.num) && decide (ex.num≤(funcs-1)))) Z Z Ac (Ah ?_)
   cases ae:(!(decide (((0:Nat):Int)≤ex.num) && decide (ex.num≤(funcs-1))))
   ·refine Aj (by first|rfl|(show Value.bool _=_;rw[ae])) (A4 (A0 (AY _ [0,0,0,1,0,0,0,1,0,0] mixed (by kernel_rfl) ?_)))
    have hnr:=I9 (Ez (by assumption):(decide (((0:Nat):Int)≤ex.num) && decide (ex.num≤funcs-1))=true)
    refine Af 1 Z (AU (hp.isPtr) Z Ac ?_)
    obtain⟨cs16,aw,af⟩:=RN.at (B4 _) hp
    obtain⟨a2,rfl,a4⟩:=RPr.of aw
    have ag:=a4.lenle
    unfold maxLen at ag
    refine AM (p:=vp) 0 BM Z (af _ (AE.of_ext [] a0.drew)) Ac (Ak (p:=(Ay vp 0)) (.inl Z) a2 Cs Z ((af _ (AE.of_ext [] a0.drew)).ld (i:=0) BP) Ac (Af 1 Z (AU (hex.isPtr) Z Ac (AM (p:=ve) 1 BT Z (a1 _ (AE.of_ext [] a0.drew)) Ac (Ak (p:=(Ay ve 1)) (.inl Z) (.int .i64 ex.num) AH Z ((a1 _ (AE.of_ext [] a0.drew)).ld (i:=1) BP) Ac ?_)))))
    refine Au (v:=a2) ((ex.num).toNat) Gm CA Z Z a4.isSl oM sD Ac (Ae 1 Z (A0 (A0 (AY _ [0,0,0,1,0,0,0,1,0,0,0,0,0,0,0,0,1,0,0,0,0,1,0,0] mixed (by kernel_rfl) (Af 1 Z (AU (hex.isPtr) Z Ac (AM (p:=ve) 2 Dn Z (a1 _ (AE.of_ext [] a0.drew.drew)) Ac ?_)))))))
    refine Ak (p:=(Ay ve 2)) (.inl Z) (.int .i64 ex.pick) AH Z ((a1 _ (AE.of_ext [] a0.drew.drew)).ld (i:=2) BP) Ac (Af 1 Z (AU (RN.isPtr (RN.ptr (AB dp) (by decide) Fn.zero a4 sD)) Z Ac ?_))
    obtain⟨cs17,ax,a3⟩:=a4.get (AB dp) Fn.zero (k:=((ex.num).toNat)) sD
    obtain⟨a7,rfl,aa⟩:=RF.of ax
    have ah:=aa.rn.lenle
    unfold maxLen at ah
    refine AM (p:=Aw a2 ((ex.num).toNat) 3) 2 Cu Z (a3 _ (AE.of_ext [] a0.drew.drew)) Ac (Ak (p:=(Ay (Aw a2 ((ex.num).toNat) 3) 2)) (.inl Z) a7 Bp Z ((a3 _ (AE.of_ext [] a0.drew.drew)).ld (i:=2) BP) Ac (AJ (v:=a7) DK Z aa.rn.isSl Ac (Cy ((((p.getD (ex.num).toNat Fn.zero).outs.length:Nat):Int)-1) Z Z (FR oM oM) Ac (AD 92 [] [] [(.int .i64 ex.pick),(.int .i64 ((0:Nat):Int)),(.int .i64 ((((p.getD (ex.num).toNat Fn.zero).outs.length:Nat):Int)-1))] Z Z IC Ac (.bool (decide (((0:Nat):Int)≤ex.pick) && decide (ex.pick≤((((p.getD (ex.num).toNat Fn.zero).outs.length:Nat):Int)-1)))) (fun wq=>Br wq _ _ _ a5.rng.pick oM oM) ?_))))
    refine Bn (!(decide (((0:Nat):Int)≤ex.pick) && decide (ex.pick≤((((p.getD (ex.num).toNat Fn.zero).outs.length:Nat):Int)-1)))) Z Z Ac (Af 1 Z ?_)
    cases b6:(!(decide (((0:Nat):Int)≤ex.pick) && decide (ex.pick≤((((p.getD (ex.num).toNat Fn.zero).outs.length:Nat):Int)-1))))
    ·refine Af 1 Z (AU (hex.isPtr) Z (Al (e:=51) Z Z Z) (AM (p:=ve) 4 Bo Z (a1 _ (AE.of_ext [] a0.drew.drew)) (Al (e:=51) Z Z Z) (Ak (p:=(Ay ve 4)) (.inl Z) ab Bp Z ((a1 _ (AE.of_ext [] a0.drew.drew)).ld (i:=4) BP) (Al (e:=51) Z Z Z) (AJ (v:=ab) DK Z a5.rn.isSl (Al (e:=51) Z Z Z) (Af 1 Z ?_)))))
     refine AU (RN.isPtr (RN.ptr (AB dp) (by decide) Fn.zero a4 sD)) Z (Al (e:=51) Z Z Z) (AM (p:=Aw a2 ((ex.num).toNat) 3) 1 Cw Z (a3 _ (AE.of_ext [] a0.drew.drew)) (Al (e:=51) Z Z Z) (Ak (p:=(Ay (Aw a2 ((ex.num).toNat) 3) 1)) (.inl Z) (.int .i64 ((p.getD ((ex.num).toNat) Fn.zero).params)) AH Z ((a3 _ (AE.of_ext [] a0.drew.drew)).ld (i:=1) BP) (Al (e:=51) Z Z Z) ?_))
     by_cases ai:((ex.kids.length:Nat):Int)≠(p.getD ((ex.num).toNat) Fn.zero).params
     ·exact AZ true Z Z (A7 ai) (Al (e:=51) Z Z Z) (Ae 1 Z (Ai Z (A0 (Ad _ [0] Z (Ae 1 Z (A3 (Aq (Aq (Ag [8] Z (.bool false) Z ⟨Dj,a0.drew.drew⟩)))))))))
     ·refine AZ false Z Z (A8 ai) (Al (e:=51) Z Z Z) (Ae 1 Z (Aj Z (A4 (A0 (A0 (Ad _ [0,0,0,2,0] Z (Af 1 Z (AU (hex.isPtr) Z Ac (AM (p:=ve) 0 C5 Z (a1 _ (AE.of_ext [] a0.drew.drew)) Ac (Ak (p:=(Ay ve 0)) (.inr Z) (.int .i64 ex.kind) AH Z ((a1 _ (AE.of_ext [] a0.drew.drew)).ld (i:=0) BP) Ac ?_))))))))))
      by_cases aj:ex.kind=((10:Nat):Int)
      ·refine AA true Z Z (A7 aj) Ac (Ah (Ai Z (A0 (Ad _ [0,0,0,2,0,0] Z (Af 1 Z (AU (hex.isPtr) Z Ac (AM (p:=ve) 3 D9 Z (a1 _ (AE.of_ext [] a0.drew.drew)) Ac (Ak (p:=(Ay ve 3)) (.inr Z) (.int .i64 ex.count) AH Z ((a1 _ (AE.of_ext [] a0.drew.drew)).ld (i:=3) BP) Ac (AA (decide (ex.count=((0:Nat):Int))) Z Z Z Ac (Ae 1 Z (A3 (Aq (Aq ?_)))))))))))))
       exact Ag [8] Z (.bool (decide (ex.count=((0:Nat):Int)))) Z ⟨Dj,a0.drew.drew⟩
      ·refine AA false Z Z (A8 aj) Ac (Ah (Aj Z (A4 (A0 (AY _ [0,0,0,1,0,0,0,0,0,1,0,0,0,0,1,0,0,0] mixed (by kernel_rfl) (Af 1 Z (AU (hex.isPtr) Z Ac (AM (p:=ve) 3 D9 Z (a1 _ (AE.of_ext [] a0.drew.drew.drew)) Ac (Ak (p:=(Ay ve 3)) (.inl Z) (.int .i64 ex.count) AH Z ((a1 _ (AE.of_ext [] a0.drew.drew.drew)).ld (i:=3) BP) Ac (AD 92 [] [] [(.int .i64 ex.count),(.int .i64 ((0:Nat):Int)),(.int .i64 ((8:Nat):Int))] Z Z IC Ac (.bool (decide (((0:Nat):Int)≤ex.count) && decide (ex.count≤((8:Nat):Int)))) (fun wq=>Br wq _ _ _ a5.rng.count oM oM) (Af 1 Z ?_)))))))))))
       cases b7:(decide (((0:Nat):Int)≤ex.count) && decide (ex.count≤((8:Nat):Int)))
       ·exact Ae 12 Z (A3 (Aq (Ag [8] Z (.bool false) Z ⟨Dj,a0.drew.drew.drew⟩)))
       ·refine Af 1 Z (AU (RN.isPtr (RN.ptr (AB dp) (by decide) Fn.zero a4 sD)) Z (Al (e:=78) Z Z Z) (AM (p:=Aw a2 ((ex.num).toNat) 3) 2 Cu Z (a3 _ (AE.of_ext [] a0.drew.drew.drew)) (Al (e:=78) Z Z Z) (Ak (p:=(Ay (Aw a2 ((ex.num).toNat) 3) 2)) (.inl Z) a7 Bp Z ((a3 _ (AE.of_ext [] a0.drew.drew.drew)).ld (i:=2) BP) (Al (e:=78) Z Z Z) ?_)))
        refine AJ (v:=a7) DK Z aa.rn.isSl (Al (e:=78) Z Z Z) (Af 1 Z (AU (RN.isPtr (RN.ptr (AB dp) (by decide) Fn.zero a4 sD)) Z (Al (e:=78) Z Z Z) (AM (p:=Aw a2 ((ex.num).toNat) 3) 1 Cw Z (a3 _ (AE.of_ext [] a0.drew.drew.drew)) (Al (e:=78) Z Z Z) ?_)))
        refine Ak (p:=(Ay (Aw a2 ((ex.num).toNat) 3) 1)) (.inl Z) (.int .i64 ((p.getD ((ex.num).toNat) Fn.zero).params)) AH Z ((a3 _ (AE.of_ext [] a0.drew.drew.drew)).ld (i:=1) BP) (Al (e:=78) Z Z Z) (AA (decide (((((p.getD ((ex.num).toNat) Fn.zero).outs).length:Nat):Int)=(p.getD ((ex.num).toNat) Fn.zero).params)) Z Z Z (Al (e:=78) Z Z Z) (Ae 2 Z (A3 (Aq ?_))))
        exact Ag [8] Z (.bool (decide (((((p.getD ((ex.num).toNat) Fn.zero).outs).length:Nat):Int)=(p.getD ((ex.num).toNat) Fn.zero).params))) Z ⟨Dj,a0.drew.drew.drew⟩
    ·exact Ae 11 Z (Ai Z (A0 (Ad _ [0] Z (Ae 1 Z (A3 (Aq (Aq (Ag [8] Z (.bool false) Z ⟨Dj,a0.drew.drew⟩))))))))
   ·exact Ai (by first|rfl|(show Value.bool _=_;rw[ae])) (A0 (Ad _ [0] Z (Ae 1 Z (A3 (Aq (Aq (Ag [8] Z (.bool false) Z ⟨Dj,a0⟩)))))))
  ·refine AA false Z Z (A8 ad) (Al (e:=15) Z Z Z) (Ae 1 Z (Aj Z (A4 (A0 (A0 (AY _ [0,0,0,1,0,0,0,0,1,0,0,0,0,0,0,1,0,0,0,0,0,0,1,0,0] mixed (by kernel_rfl) (Af 1 Z (AU (hex.isPtr) Z Ac (AM (p:=ve) 0 C5 Z (a1 _ (AE.of_ext [] a0.drew)) Ac (Ak (p:=(Ay ve 0)) (.inl Z) (.int .i64 ex.kind) AH Z ((a1 _ (AE.of_ext [] a0.drew)).ld (i:=0) BP) Ac (AD 202 [] [] [(.int .i64 ex.kind)] Z Z gX Ac (.int .i64 (Tt ex.kind)) (fun wq=>MP wq _ a5.rng.kind) (Af 1 Z (AU (hex.isPtr) Z Ac (AM (p:=ve) 4 Bo Z (a1 _ (AE.of_ext [] a0.drew)) Ac ?_))))))))))))))
   refine Ak (p:=(Ay ve 4)) (.inl Z) ab Bp Z ((a1 _ (AE.of_ext [] a0.drew)).ld (i:=4) BP) Ac (AJ (v:=ab) DK Z a5.rn.isSl Ac ?_)
   by_cases ak:Tt ex.kind≠((ex.kids.length:Nat):Int)
   ·exact AZ true Z Z (A7 ak) Ac (Ae 14 Z (Ai Z (A0 (Ad _ [0] Z (Ae 1 Z (A3 (Aq (Ag [8] Z (.bool false) Z ⟨Dj,a0.drew⟩))))))))
   ·refine AZ false Z Z (A8 ak) Ac (Af 2 Z (AU (hex.isPtr) Z (Al (e:=101) Z Z Z) (AM (p:=ve) 2 Dn Z (a1 _ (AE.of_ext [] a0.drew)) (Al (e:=101) Z Z Z) (Ak (p:=(Ay ve 2)) (.inl Z) (.int .i64 ex.pick) AH Z ((a1 _ (AE.of_ext [] a0.drew)).ld (i:=2) BP) (Al (e:=101) Z Z Z) ?_))))
    by_cases al:ex.pick≠((0:Nat):Int)
    ·exact AZ true Z Z (A7 al) (Al (e:=101) Z Z Z) (Ae 8 Z (Ai Z (A0 (Ad _ [0] Z (Ae 1 Z (A3 (Aq (Ag [8] Z (.bool false) Z ⟨Dj,a0.drew⟩))))))))
    ·refine AZ false Z Z (A8 al) (Al (e:=101) Z Z Z) (Af 3 Z (AU (hex.isPtr) Z (Al (e:=108) Z Z Z) (AM (p:=ve) 3 D9 Z (a1 _ (AE.of_ext [] a0.drew)) (Al (e:=108) Z Z Z) (Ak (p:=(Ay ve 3)) (.inl Z) (.int .i64 ex.count) AH Z ((a1 _ (AE.of_ext [] a0.drew)).ld (i:=3) BP) (Al (e:=108) Z Z Z) ?_))))
     by_cases am:ex.count≠((0:Nat):Int)
     ·exact AZ true Z Z (A7 am) (Al (e:=108) Z Z Z) (Ae 1 Z (Ai Z (A0 (Ad _ [0] Z (Ae 1 Z (A3 (Aq (Ag [8] Z (.bool false) Z ⟨Dj,a0.drew⟩))))))))
     ·refine AZ false Z Z (A8 am) (Al (e:=108) Z Z Z) (Ae 1 Z (Aj Z (A4 (A0 (A0 (Ad _ [0,0,0,2] Z (Af 1 Z (AU (hex.isPtr) Z Ac (AM (p:=ve) 0 C5 Z (a1 _ (AE.of_ext [] a0.drew)) Ac (Ak (p:=(Ay ve 0)) (.inr Z) (.int .i64 ex.kind) AH Z ((a1 _ (AE.of_ext [] a0.drew)).ld (i:=0) BP) Ac (Ah (A5 (A0 (Ad _ [0,0] Z ?_))))))))))))))
      by_cases an:ex.kind=((1:Nat):Int)
      ·refine AA true Z Z (A7 an) Ac (Ae 1 Z (Ai Z (A0 (Ad _ [0,0,0,2,0,0] Z (Af 1 Z (AU (hex.isPtr) Z Ac (AM (p:=ve) 1 BT Z (a1 _ (AE.of_ext [] a0.drew)) Ac (Ak (p:=(Ay ve 1)) (.inr Z) (.int .i64 ex.num) AH Z ((a1 _ (AE.of_ext [] a0.drew)).ld (i:=1) BP) Ac (AD 192 [] [] [(.int .i64 ex.num)] Z Z aJ Ac (.bool (J2 ex.num)) (fun wq=>H9 wq _ a5.rng.num) (Ae 1 Z (A3 (AL (Aq ?_)))))))))))))
       exact Ag [8] Z (.bool (J2 ex.num)) Z ⟨Dj,a0.drew⟩
      ·refine AA false Z Z (A8 an) Ac (Ae 1 Z (Aj Z (A0 (Ad _ [0,0] Z ?_))))
       by_cases ao:ex.kind=((2:Nat):Int)
       ·refine AA true Z Z (A7 ao) Ac (Ae 1 Z (Ai Z (A0 (Ad _ [0,0,0,2,0,0,0,0] Z (Af 1 Z (AU (hex.isPtr) Z Ac (AM (p:=ve) 1 BT Z (a1 _ (AE.of_ext [] a0.drew)) Ac (Ak (p:=(Ay ve 1)) (.inr Z) (.int .i64 ex.num) AH Z ((a1 _ (AE.of_ext [] a0.drew)).ld (i:=1) BP) Ac (Af 1 Z (Cy (vars-1) Z Z (FR oM oM) Ac (AD 92 [] [] [(.int .i64 ex.num),(.int .i64 ((0:Nat):Int)),(.int .i64 (vars-1))] Z Z IC Ac (.bool (decide (((0:Nat):Int)≤ex.num) && decide (ex.num≤(vars-1)))) (fun wq=>Br wq _ _ _ a5.rng.num oM oM) (Ae 1 Z (A3 (AL (Aq ?_)))))))))))))))
        exact Ag [8] Z (.bool (decide (((0:Nat):Int)≤ex.num) && decide (ex.num≤(vars-1)))) Z ⟨Dj,a0.drew⟩
       ·refine AA false Z Z (A8 ao) Ac (Ae 1 Z (Aj Z (A4 (A0 (Ad _ [0,0,0,2,0,0] Z (Af 1 Z (AU (hex.isPtr) Z Ac (AM (p:=ve) 1 BT Z (a1 _ (AE.of_ext [] a0.drew)) Ac (Ak (p:=(Ay ve 1)) (.inr Z) (.int .i64 ex.num) AH Z ((a1 _ (AE.of_ext [] a0.drew)).ld (i:=1) BP) Ac (AA (decide (ex.num=((0:Nat):Int))) Z Z Z Ac (Ae 1 Z (A3 ?_))))))))))))
        exact Ag [8] Z (.bool (decide (ex.num=((0:Nat):Int)))) Z ⟨Dj,a0.drew⟩
theorem MS {p:Prop}(h:p:=by first|exact AG (Ul (Gb (by assumption)))|exact AG (RD (Ez (by assumption)) fun j hj=>hall j oM)|exact AG (Um (k:=k) oM (by first|(rw[if_pos oM])|(rw[if_neg oM])) (Gb (by assumption)))):p:=h
theorem Rg {p:Prop}(h:p:=by intro j hj;by_cases e9:j=k;(rw[e9];first|(rw[if_pos oM];exact Ez (by assumption))|(rw[if_neg oM];exact Ez (by assumption)));exact hall j oM):p:=h
theorem MT (w:World)(dp:Nat)(vp:Value)(p:List Fn)(dex:Nat)(ve:Value)(ex:Ex)(vars:Int)(funcs:Int)(hp:RN [] (rP (N7 dp)) w.heap vp p)(hex:RN [] (rP (Iv dex)) w.heap ve ex)(_hvars:BC vars)(_hfuncs:BC funcs)(hs:0≤vars∧vars+(ex.deep:Int)≤2000000000)(hf:0≤funcs∧funcs≤((p.length:Nat):Int)) :
  Calls Tryz.prog 247 #[vp,ve,.int .i64 vars,.int .i64 funcs] w (fun e w'=>e=.returned (.bool (wf p funcs ex vars))∧Az w w'):=by
 induction dex using Nat.strongRecOn generalizing w dp vp p ve ex vars funcs
 rename_i dex ih
 refine At [vp,ve,.int .i64 vars,.int .i64 funcs] 49 Tryz.func247 Z Z sM ?_
 have aa:Az w w:=Az.refl w
 have hdk:=EG ex
 refine A0 (Ad _ [0] Z (Ae 1 Z (A0 (A0 (Ad _ [0,0,0,0,3,0] Z (Af 4 Z (Ap 253 [] [] [vp,ve,(.int .i64 vars),(.int .i64 funcs)] Z Z iR Ac (MQ _ dp vp (p) dex ve (ex) _ _ (hp.ext (Be (B4 dp)) aa) (hex.ext (Be (AC dex)) aa) _hvars _hfuncs oM oM) ?_)))))))
 rintro e1 w1 ⟨rfl,ab⟩
 refine⟨_,rfl,ab,?_⟩
 have ac:=ab.size
 have ad:=aa.trans ab
 refine Bn (!(Kn p funcs vars ex)) Z Z Ac (Ah ?_)
 cases ag:(!(Kn p funcs vars ex))
 ·refine Aj (by first|rfl|(show Value.bool _=_;rw[ag])) (A4 (A0 (A0 (Ad _ [0] Z (Ae 1 Z (A5 ?_))))))
  refine AN (S:=Nat) (fun k=>([(9,(.int .i64 ((k:Nat):Int))),(0,vp),(1,ve),(2,(.int .i64 vars)),(3,(.int .i64 funcs))])) (fun k W=>Az w W∧k≤ex.kids.length∧(∀j,j<k→wf p funcs (ex.kids.getD j Ex.zero) (if ex.kind=9∧j=1 then vars+1 else vars)=true)) (fun k=>ex.kids.length-k) 0 ⟨rfl,rfl,rfl,rfl,rfl,trivial⟩ ⟨ad,sD,(by intro j hj;omega)⟩ ?_
  clear aa ab ac ad
  rintro k ρ3 w3 ⟨a0,ah,hall⟩
  have ap:w.heap.size≤w3.heap.size:=a0.size
  refine A0 (A0 (Ad _ [0,0,0,0,2,0,0] Z (Af 2 Z (AU (hex.isPtr) Z Ac ?_))))
  obtain⟨cs4,aq,a2⟩:=RN.at (AC _) hex
  obtain⟨dd4,a1,au,rfl,a3⟩:=RX.of aq
  have ae:=a3.rn.lenle
  unfold maxLen at ae
  refine AM (p:=ve) 4 Bo Z (a2 _ (AE.of_ext [] a0)) Ac (Ak (p:=(Ay ve 4)) (.inr Z) a1 Bp Z ((a2 _ (AE.of_ext [] a0)).ld (i:=4) (by simp[FL,FM])) Ac (AJ (v:=a1) DK Z a3.rn.isSl Ac ?_))
  by_cases ai:((k:Nat):Int)<((ex.kids.length:Nat):Int)
  ·refine Ax true Z Z (A7 ai) Ac (Ah (Ai Z (A4 (A0 (A5 (A0 (Ad _ [0,0] Z ?_)))))))
   have hkd:=Fz (l:=ex.kids) (k:=k) oM
   refine Ae 2 Z (A0 (A0 (Ad _ [0,0,0,2,0,0,0,0,0] Z (Af 1 Z (AU (hex.isPtr) Z Ac (AM (p:=ve) 0 C5 Z (a2 _ (AE.of_ext [] a0)) Ac (Ak (p:=(Ay ve 0)) (.inr Z) (.int .i64 ex.kind) AH Z ((a2 _ (AE.of_ext [] a0)).ld (i:=0) (by simp[FL,FM])) Ac ?_)))))))
   by_cases aj:ex.kind=((9:Nat):Int)
   ·refine AA true Z Z (A7 aj) Ac (Af 2 Z ?_)
    by_cases ak:((k:Nat):Int)=((1:Nat):Int)
    ·refine AA true Z Z (A7 ak) (Al (e:=32) Z Z Z) (Ae 1 Z (Ai Z (Ad _ [0,0,0] Z (Af 1 Z (AI (vars+1) Z Z (FR oM oM) Ac (Ae 1 Z (A0 (Ad _ [0,0,0,0,2,0,0,0,0,3,0] Z (Af 2 Z (AU (hex.isPtr) Z Ac (AM (p:=ve) 4 Bo Z (a2 _ (AE.of_ext [] a0)) Ac (Ak (p:=(Ay ve 4)) (.inr Z) a1 Bp Z ((a2 _ (AE.of_ext [] a0)).ld (i:=4) (by simp[FL,FM])) Ac (Af 1 Z ?_)))))))))))))
     refine Au (v:=a1) k DK BB Z Z a3.rn.isSl Z sD Ac (Af 2 Z ?_)
     refine Ap 247 [] [] [vp,(Aw a1 k 5),(.int .i64 (vars+1)),(.int .i64 funcs)] Z Z SJ Ac (ih dd4 oM _ dp vp (p) (Aw a1 k 5) (ex.kids.getD k Ex.zero) _ _ (hp.ext (Be (B4 dp)) a0) (RN.ptr (AC dd4) (by decide) Ex.zero (a3.rn.ext (Am (AC dd4)) a0) sD) oM _hfuncs oM oM) ?_
     rintro e8 w8 ⟨rfl,af⟩
     refine⟨_,rfl,af,?_⟩
     have ar:=af.size
     have al:=a0.trans af
     refine Bn (!(wf p funcs (ex.kids.getD k Ex.zero) (vars+1))) Z Z Ac (Ah ?_)
     cases am:(!(wf p funcs (ex.kids.getD k Ex.zero) (vars+1)))
     ·refine Aj (by first|rfl|(show Value.bool _=_;rw[am])) (A4 (Ad _ [0,0,0] Z (Af 1 Z (AI ((k+1:Nat):Int) Z Z (B8 oM sD) Ac (Ae 1 Z ?_)))))
      exact⟨(k+1),_,rfl,⟨rfl,rfl,rfl,rfl,rfl,trivial⟩,⟨al,sD,Rg⟩,by first|omega|(dsimp only;omega)⟩
     ·exact Ai (by first|rfl|(show Value.bool _=_;rw[am])) (A0 (Ad _ [0] Z (Ae 1 Z (A3 (AL (Aq (Aq (AL (Aq (Ag [8] Z (.bool false) Z ⟨MS,al⟩))))))))))
    ·refine AA false Z Z (A8 ak) (Al (e:=32) Z Z Z) (Ae 1 Z (Aj Z (A4 (A0 (Ad _ [0,0,0,0,2,0,0,0,0,3,0] Z (Af 2 Z (AU (hex.isPtr) Z Ac (AM (p:=ve) 4 Bo Z (a2 _ (AE.of_ext [] a0)) Ac (Ak (p:=(Ay ve 4)) (.inr Z) a1 Bp Z ((a2 _ (AE.of_ext [] a0)).ld (i:=4) (by simp[FL,FM])) Ac (Af 1 Z ?_))))))))))
     refine Au (v:=a1) k DK BB Z Z a3.rn.isSl Z sD Ac (Af 2 Z ?_)
     refine Ap 247 [] [] [vp,(Aw a1 k 5),(.int .i64 vars),(.int .i64 funcs)] Z Z SJ Ac (ih dd4 oM _ dp vp (p) (Aw a1 k 5) (ex.kids.getD k Ex.zero) _ _ (hp.ext (Be (B4 dp)) a0) (RN.ptr (AC dd4) (by decide) Ex.zero (a3.rn.ext (Am (AC dd4)) a0) sD) _hvars _hfuncs oM oM) ?_
     rintro e10 w10 ⟨rfl,a4⟩
     refine⟨_,rfl,a4,?_⟩
     have an:=a4.size
     have a6:=a0.trans a4
     refine Bn (!(wf p funcs (ex.kids.getD k Ex.zero) vars)) Z Z Ac (Ah ?_)
     cases a7:(!(wf p funcs (ex.kids.getD k Ex.zero) vars))
     ·refine Aj (by first|rfl|(show Value.bool _=_;rw[a7])) (A4 (Ad _ [0,0,0] Z (Af 1 Z (AI ((k+1:Nat):Int) Z Z (B8 oM sD) Ac (Ae 1 Z ?_)))))
      exact⟨(k+1),_,rfl,⟨rfl,rfl,rfl,rfl,rfl,trivial⟩,⟨a6,sD,Rg⟩,by first|omega|(dsimp only;omega)⟩
     ·exact Ai (by first|rfl|(show Value.bool _=_;rw[a7])) (A0 (Ad _ [0] Z (Ae 1 Z (A3 (AL (Aq (Aq (AL (Aq (Ag [8] Z (.bool false) Z ⟨MS,a6⟩))))))))))
   ·refine AA false Z Z (A8 aj) Ac (Ae 4 Z (Aj Z (A4 (A0 (Ad _ [0,0,0,0,2,0,0,0,0,3,0] Z (Af 2 Z (AU (hex.isPtr) Z Ac (AM (p:=ve) 4 Bo Z (a2 _ (AE.of_ext [] a0)) Ac (Ak (p:=(Ay ve 4)) (.inr Z) a1 Bp Z ((a2 _ (AE.of_ext [] a0)).ld (i:=4) (by simp[FL,FM])) Ac (Af 1 Z ?_))))))))))
    refine Au (v:=a1) k DK BB Z Z a3.rn.isSl Z sD Ac (Af 2 Z ?_)
    refine Ap 247 [] [] [vp,(Aw a1 k 5),(.int .i64 vars),(.int .i64 funcs)] Z Z SJ Ac (ih dd4 oM _ dp vp (p) (Aw a1 k 5) (ex.kids.getD k Ex.zero) _ _ (hp.ext (Be (B4 dp)) a0) (RN.ptr (AC dd4) (by decide) Ex.zero (a3.rn.ext (Am (AC dd4)) a0) sD) _hvars _hfuncs oM oM) ?_
    rintro e12 w12 ⟨rfl,a5⟩
    refine⟨_,rfl,a5,?_⟩
    have ao:=a5.size
    have a8:=a0.trans a5
    refine Bn (!(wf p funcs (ex.kids.getD k Ex.zero) vars)) Z Z Ac (Ah ?_)
    cases a9:(!(wf p funcs (ex.kids.getD k Ex.zero) vars))
    ·refine Aj (by first|rfl|(show Value.bool _=_;rw[a9])) (A4 (Ad _ [0,0,0] Z (Af 1 Z (AI ((k+1:Nat):Int) Z Z (B8 oM sD) Ac (Ae 1 Z ?_)))))
     exact⟨(k+1),_,rfl,⟨rfl,rfl,rfl,rfl,rfl,trivial⟩,⟨a8,sD,Rg⟩,by first|omega|(dsimp only;omega)⟩
    ·exact Ai (by first|rfl|(show Value.bool _=_;rw[a9])) (A0 (Ad _ [0] Z (Ae 1 Z (A3 (AL (Aq (Aq (AL (Aq (Ag [8] Z (.bool false) Z ⟨MS,a8⟩))))))))))
  ·exact Ax false Z Z (A8 ai) Ac (Ah (Aj Z (A6 (As (As (An (A0 (Ad _ [0] Z (Ae 1 Z (A3 (Ag [8] Z (.bool true) Z ⟨MS,a0⟩)))))))))))
 ·exact Ai (by first|rfl|(show Value.bool _=_;rw[ag])) (A0 (Ad _ [0] Z (Ae 1 Z (A3 (Aq (Ag [8] Z (.bool false) Z ⟨MS,ad⟩))))))
theorem MU (w:World)(vars:Int)(_hvars:BC vars)  :
  Calls Tryz.prog 245 #[.int .i64 vars] w (fun e w'=>e=.returned (.bool (Hm vars 0 412))∧w'=w):=by
 refine At [.int .i64 vars] 5 Tryz.func245 Z Z sM ?_
 have a0:w=w:=rfl
 exact A0 (Ad _ [0] Z (Ae 1 Z (A0 (Ad _ [0,0,0] Z (Af 1 Z (AD 92 [] [] [(.int .i64 vars),(.int .i64 ((0:Nat):Int)),(.int .i64 ((412:Nat):Int))] Z Z IC Ac (.bool (decide (((0:Nat):Int)≤vars) && decide (vars≤((412:Nat):Int)))) (fun wq=>Br wq _ _ _ _hvars oM oM) (Ae 1 Z (A3 (Ag [2] Z (.bool (decide (((0:Nat):Int)≤vars) && decide (vars≤((412:Nat):Int)))) Z ⟨rfl,a0⟩)))))))))
theorem MV {p:Prop}(h:p:=by first|exact AG (aW (by assumption))|exact AG (SW ⟨CH.1 (by assumption),I9 (by assumption),by omega,by omega⟩)|exact AG ((by assumption:wf p funcs ex vars=true).symm.trans (SW ⟨CH.1 (by assumption),I9 (by assumption),by omega,by omega⟩))|exact AG (O4 fun hh=>Xr (by assumption) hh.1)|exact AG (O4 fun hh=>Qe (by assumption) hh.2.1)|exact AG (O4 oM)):p:=h
theorem MW (w:World)(dp:Nat)(vp:Value)(p:List Fn)(dex:Nat)(ve:Value)(ex:Ex)(vars:Int)(funcs:Int)(hp:RN [] (rP (N7 dp)) w.heap vp p)(hex:RN [] (rP (Iv dex)) w.heap ve ex)(_hvars:BC vars)(_hfuncs:BC funcs)(hs:ex.size≤1000000000) :
  Calls Tryz.prog 236 #[vp,ve,.int .i64 vars,.int .i64 funcs] w (fun e w'=>e=.returned (.bool (NO p ex vars funcs))∧Az w w'):=by
 refine At [vp,ve,.int .i64 vars,.int .i64 funcs] 37 Tryz.func236 Z Z sM ?_
 have a1:Az w w:=Az.refl w
 have hlp:=Va (e:=ex) (x:=((400:Nat):Int)) oM
 refine A0 (Ad _ [0] Z (Ae 1 Z (A0 (Ad _ [0,0,0,0,0,0,0,2,0,0,0,0,0,3,0,0,0,0,3,0,0,0,0,0,0,0,3,0,0] Z (Af 1 Z (AD 245 [] [] [(.int .i64 vars)] Z Z iN Ac (.bool (Hm vars 0 412)) (fun wq=>MU wq _ _hvars) (Af 1 Z ?_)))))))
 cases ah:(Hm vars 0 412)
 ·exact Ae 26 Z (A3 (Ag [8] Z (.bool false) Z ⟨MV,a1⟩))
 ·refine Af 2 Z (AU (hp.isPtr) Z (Al (e:=11) Z Z Z) ?_)
  obtain⟨cs3,ae,a8⟩:=RN.at (B4 _) hp
  obtain⟨a9,rfl,aa⟩:=RPr.of ae
  have a3:=aa.lenle
  unfold maxLen at a3
  refine AM (p:=vp) 0 BM Z (a8 _ (AE.of_ext [] a1)) (Al (e:=11) Z Z Z) (Ak (p:=(Ay vp 0)) (.inr Z) a9 Cs Z ((a8 _ (AE.of_ext [] a1)).ld (i:=0) (by simp[FL,FM])) (Al (e:=11) Z Z Z) (AJ (v:=a9) Gm Z aa.isSl (Al (e:=11) Z Z Z) (AD 92 [] [] [(.int .i64 funcs),(.int .i64 ((0:Nat):Int)),(.int .i64 ((p.length:Nat):Int))] Z Z IC (Al (e:=11) Z Z Z) (.bool (decide (((0:Nat):Int)≤funcs) && decide (funcs≤((p.length:Nat):Int)))) (fun wq=>Br wq _ _ _ _hfuncs oM oM) (Af 2 Z ?_))))
  cases ai:(decide (((0:Nat):Int)≤funcs) && decide (funcs≤((p.length:Nat):Int)))
  ·exact Ae 17 Z (A3 (Ag [8] Z (.bool false) Z ⟨MV,a1⟩))
  ·refine Af 1 Z (Ap 235 [] [] [ve,(.int .i64 ((400:Nat):Int))] Z Z Xf (Al (e:=20) Z Z Z) (Ic _ dex ve (ex) _ (hex.ext (Be (AC dex)) a1) oM oM oM) ?_)
   rintro e6 w6 ⟨rfl,a4⟩
   refine⟨_,rfl,a4,?_⟩
   have af:=a4.size
   have a5:=a1.trans a4
   by_cases ab:((0:Nat):Int)≤IA ex ((400:Nat):Int)
   ·refine Gq true Z Z (A7 ab) (Al (e:=20) Z Z Z) (Af 3 Z (Ap 246 [] [] [ve] Z Z aQ (Al (e:=25) Z Z Z) (La _ dex ve (ex) (hex.ext (Be (AC dex)) a5) oM) ?_))
    rintro e8 w8 ⟨rfl,a6⟩
    refine⟨_,rfl,a6,?_⟩
    have ag:=a6.size
    have a2:=a5.trans a6
    by_cases ac:((ex.deep:Nat):Int)≤((60:Nat):Int)
    ·refine Ei true Z Z (A7 ac) (Al (e:=25) Z Z Z) (Af 6 Z (Ap 247 [] [] [vp,ve,(.int .i64 vars),(.int .i64 funcs)] Z Z SJ (Al (e:=30) Z Z Z) (MT _ dp vp (p) dex ve (ex) _ _ (hp.ext (Be (B4 dp)) a2) (hex.ext (Be (AC dex)) a2) _hvars _hfuncs (by have h1:=CH.1 (by assumption:Hm vars 0 412=true);omega) (by have h2:=I9 (by assumption:(decide (((0:Nat):Int)≤funcs) && decide (funcs≤((p.length:Nat):Int)))=true);omega)) ?_))
     rintro e10 w10 ⟨rfl,a0⟩
     refine⟨_,rfl,a0,?_⟩
     have ad:=a0.size
     have a7:=a2.trans a0
     exact Ae 2 Z (A3 (Ag [8] Z (.bool (wf p funcs ex vars)) Z ⟨MV,a7⟩))
    ·exact Ei false Z Z (A8 ac) (Al (e:=25) Z Z Z) (Ae 9 Z (A3 (Ag [8] Z (.bool false) Z ⟨MV,a2⟩)))
   ·exact Gq false Z Z (A8 ab) (Al (e:=20) Z Z Z) (Ae 14 Z (A3 (Ag [8] Z (.bool false) Z ⟨MV,a5⟩)))
theorem eT {s:ByteArray}(h:¬(1≤s.size∧s.size≤12)):false=Pd s:=by
  cases hh:Pd s with
  |false=>rfl
  |true=>unfold Pd at hh;simp only[Bool.and_eq_true,decide_eq_true_eq]at hh;exact absurd hh.1 h
theorem Id {p:Prop}(h:p:=by first|exact AG (eT (fun hh=>Qe (Gb (by assumption)) ⟨by omega,by omega⟩))|exact AG (R4 (k:=0) oM oM)|exact AG (R4 (k:=k) oM oM)|exact AG (Xq hq oM (by rw[A7 (show 1≤s.size by omega),A7 (show s.size≤12 by omega)];rfl))):p:=h
theorem Rh {p:Prop}(h:p:=by exact Ec hq (SU (by(by_cases h0:k=0;(rw[h0];left;omega);omega)))):p:=h
theorem Nr (w:World)(s:ByteArray)  (hl:s.size≤1000000000) :
  Calls Tryz.prog 234 #[.string s] w (fun e w'=>e=.returned (.bool (Pd s))∧w'=w):=by
 refine At [.string s] 46 Tryz.func234 Z Z sM ?_
 have a1:w=w:=rfl
 refine A0 (Ad _ [0] Z (Ae 1 Z (A0 (A0 (Ad _ [0,0,0,0,0,0,0,0,0,0,0,0,0,0] Z (Af 1 Z (Kd (s:=s) u9 Z Ac (AD 92 [] [] [(.int .i64 ((s.size:Nat):Int)),(.int .i64 ((1:Nat):Int)),(.int .i64 ((12:Nat):Int))] Z Z IC Ac (.bool (decide (((1:Nat):Int)≤((s.size:Nat):Int)) && decide (((s.size:Nat):Int)≤((12:Nat):Int)))) (fun wq=>Br wq _ _ _ oM oM oM) (Bn (!(decide (((1:Nat):Int)≤((s.size:Nat):Int)) && decide (((s.size:Nat):Int)≤((12:Nat):Int)))) Z Z Ac (Af 1 Z ?_))))))))))
 cases ac:(!(decide (((1:Nat):Int)≤((s.size:Nat):Int)) && decide (((s.size:Nat):Int)≤((12:Nat):Int))))
 ·refine Af 1 Z ?_
  have hsz:=I9 (Ez (by assumption):(decide (((1:Nat):Int)≤((s.size:Nat):Int)) && decide (((s.size:Nat):Int)≤((12:Nat):Int)))=true)
  refine Dl (s:=s) 0 u9 Z Z Z sD (Al (e:=8) Z Z Z) ?_
  by_cases a5:((K8 s 0:Nat):Int)<97
  ·exact Ax true Z Z (A7 a5) (Al (e:=8) Z Z Z) (Ae 6 Z (Ai Z (A0 (Ad _ [0] Z (Ae 1 Z (A3 (Aq (Ag [2] Z (.bool false) Z ⟨Id,a1⟩))))))))
  ·refine Ax false Z Z (A8 a5) (Al (e:=8) Z Z Z) (Af 3 Z (Dl (s:=s) 0 u9 Z Z Z sD (Al (e:=13) Z Z Z) ?_))
   by_cases a6:122<((K8 s 0:Nat):Int)
   ·exact C6 true Z Z (A7 a6) (Al (e:=13) Z Z Z) (Ae 1 Z (Ai Z (A0 (Ad _ [0] Z (Ae 1 Z (A3 (Aq (Ag [2] Z (.bool false) Z ⟨Id,a1⟩))))))))
   ·refine C6 false Z Z (A8 a6) (Al (e:=13) Z Z Z) (Ae 1 Z (Aj Z (A4 (A0 (A0 (Ad _ [0] Z (Ae 1 Z (A5 (AN (S:=Nat) (fun k=>([(3,(.int .i64 ((k:Nat):Int))),(0,(.string s))])) (fun k W=>W=w∧k≤s.size∧(List.range k).all (Zo s)=true) (fun k=>s.size-k) 0 ⟨rfl,rfl,trivial⟩ ⟨a1,sD,(by rfl)⟩ ?_)))))))))
    clear a1
    rintro k ρ5 w5 ⟨a0,a7,hq⟩
    refine A0 (A0 (Ad _ [0,0,0,0] Z (Af 2 Z (Kd (s:=s) u9 Z Ac ?_))))
    by_cases a8:((k:Nat):Int)<((s.size:Nat):Int)
    ·refine Ax true Z Z (A7 a8) Ac (Ah (Ai Z (A4 (A0 (A5 (A0 (Ad _ [0,0,0,0,0,0,0,0,0,0,0,0,0,0,0,0,0,0,0,0,0,0] Z (Af 2 Z (Dl (s:=s) k u9 Z Z Z sD Ac ?_)))))))))
     by_cases a9:((K8 s k:Nat):Int)<97
     ·refine Ax true Z Z (A7 a9) Ac (Af 9 Z (Dl (s:=s) k u9 Z Z Z sD (Al (e:=34) Z Z Z) ?_))
      by_cases aa:((K8 s k:Nat):Int)<48
      ·exact Ax true Z Z (A7 aa) (Al (e:=34) Z Z Z) (Ae 7 Z (Ai Z (A0 (Ad _ [0] Z (Ae 1 Z (A3 (AL (Aq (Aq (AL (Aq (Ag [2] Z (.bool false) Z ⟨Id,a0⟩))))))))))))
      ·refine Ax false Z Z (A8 aa) (Al (e:=34) Z Z Z) (Af 3 Z (Dl (s:=s) k u9 Z Z Z sD (Al (e:=39) Z Z Z) ?_))
       by_cases ab:57<((K8 s k:Nat):Int)
       ·exact C6 true Z Z (A7 ab) (Al (e:=39) Z Z Z) (Ae 2 Z (Ai Z (A0 (Ad _ [0] Z (Ae 1 Z (A3 (AL (Aq (Aq (AL (Aq (Ag [2] Z (.bool false) Z ⟨Id,a0⟩))))))))))))
       ·refine C6 false Z Z (A8 ab) (Al (e:=39) Z Z Z) (Ae 2 Z (Aj Z (A4 (Ad _ [0,0,0] Z (Af 1 Z (AI ((k+1:Nat):Int) Z Z (B8 oM sD) Ac (Ae 1 Z ?_)))))))
        exact⟨(k+1),_,rfl,⟨rfl,rfl,trivial⟩,⟨a0,sD,Rh⟩,by first|omega|(dsimp only;omega)⟩
     ·refine Ax false Z Z (A8 a9) Ac (Af 3 Z (Dl (s:=s) k u9 Z Z Z sD (Al (e:=28) Z Z Z) ?_))
      by_cases a2:122<((K8 s k:Nat):Int)
      ·refine C6 true Z Z (A7 a2) (Al (e:=28) Z Z Z) (Af 4 Z (Dl (s:=s) k u9 Z Z Z sD (Al (e:=34) Z Z Z) ?_))
       by_cases a3:((K8 s k:Nat):Int)<48
       ·exact Ax true Z Z (A7 a3) (Al (e:=34) Z Z Z) (Ae 7 Z (Ai Z (A0 (Ad _ [0] Z (Ae 1 Z (A3 (AL (Aq (Aq (AL (Aq (Ag [2] Z (.bool false) Z ⟨Id,a0⟩))))))))))))
       ·refine Ax false Z Z (A8 a3) (Al (e:=34) Z Z Z) (Af 3 Z (Dl (s:=s) k u9 Z Z Z sD (Al (e:=39) Z Z Z) ?_))
        by_cases a4:57<((K8 s k:Nat):Int)
        ·exact C6 true Z Z (A7 a4) (Al (e:=39) Z Z Z) (Ae 2 Z (Ai Z (A0 (Ad _ [0] Z (Ae 1 Z (A3 (AL (Aq (Aq (AL (Aq (Ag [2] Z (.bool false) Z ⟨Id,a0⟩))))))))))))
        ·refine C6 false Z Z (A8 a4) (Al (e:=39) Z Z Z) (Ae 2 Z (Aj Z (A4 (Ad _ [0,0,0] Z (Af 1 Z (AI ((k+1:Nat):Int) Z Z (B8 oM sD) Ac (Ae 1 Z ?_)))))))
         exact⟨(k+1),_,rfl,⟨rfl,rfl,trivial⟩,⟨a0,sD,Rh⟩,by first|omega|(dsimp only;omega)⟩
      ·refine C6 false Z Z (A8 a2) (Al (e:=28) Z Z Z) (Ae 13 Z (Aj Z (A4 (Ad _ [0,0,0] Z (Af 1 Z (AI ((k+1:Nat):Int) Z Z (B8 oM sD) Ac (Ae 1 Z ?_)))))))
       exact⟨(k+1),_,rfl,⟨rfl,rfl,trivial⟩,⟨a0,sD,Rh⟩,by first|omega|(dsimp only;omega)⟩
    ·exact Ax false Z Z (A8 a8) Ac (Ah (Aj Z (A6 (As (As (An (A0 (Ad _ [0] Z (Ae 1 Z (A3 (Ag [2] Z (.bool true) Z ⟨Id,a0⟩)))))))))))
 ·exact Ae 9 Z (Ai Z (A0 (Ad _ [0] Z (Ae 1 Z (A3 (Aq (Ag [2] Z (.bool false) Z ⟨Id,a1⟩)))))))
end
section
set_option maxHeartbeats 4000000
set_option maxRecDepth 100000
attribute [local irreducible] LW
theorem XD {α:Type}{l:List α}{f:α→Bool}{k:Nat}(d:α)(hk:k<l.length)(h:(l.take k).any f=false)(h2:f (l.getD k d)=false):(l.take (k+1)).any f=false:=by
  rw[List.take_succ_eq_append_getElem hk,List.any_append,h]
  have:l.getD k d=l[k]:=by simp[hk]
  rw[this]at h2
  simp[h2]
theorem Za {α:Type}{l:List α}{f:α→Bool}{k n:Nat}(d:α)(hk:k<n)(hn:n≤l.length)(h:f (l.getD k d)=true):(l.take n).any f=true:=by
  rw[List.any_eq_true]
  have hkl:k<l.length:=by omega
  have e:l.getD k d=l[k]:=by simp[hkl]
  refine⟨l[k],?_,by rw[← e];exact h⟩
  rw[List.mem_take_iff_getElem]
  exact⟨k,by omega,rfl⟩
theorem Zb {p:List Fn}{a j:Nat}{x:Int}(hx:x=Dh ((p.getD a Fn.zero).outs.take j) ((400:Nat):Int))(h:0≤x)(hj:(p.getD a Fn.zero).outs.length≤j):Ex.sizes (p.getD a Fn.zero).outs≤400:=by
  rw[List.take_of_length_le hj]at hx
  rcases Im (p.getD a Fn.zero).outs ((400:Nat):Int) (Int.natCast_nonneg _)with h2|h2
  · have:=h2.2;omega
  · have:=h2.1;omega
theorem XE {p:List Fn}{a j:Nat}(h:Dh ((p.getD a Fn.zero).outs.take j) ((400:Nat):Int)<0):L4 p a=false:=jC (by
  have h1:=NT h
  rcases Im (p.getD a Fn.zero).outs ((400:Nat):Int) (Int.natCast_nonneg _)with h2|h2
  · have:=h2.1;have:=h2.2;omega
  · have:=h2.2;omega)
theorem Jk {p:Prop}(h:p:=by first|exact AG (iX (Gb (by assumption))).symm|exact AG (iZ (Gb (by assumption))).symm|exact AG (jA (Gb (by assumption))).symm|exact AG (iY (Za (k:=k) Fn.zero oM oM (by assumption))).symm|exact AG (XE (j:=j+1) (by rw[hnx,← hx];omega)).symm|exact AG (jB (j:=j) oM (Gb (by assumption))).symm|exact AG (aX (Ez (by assumption)) hqa (Ez (by assumption)) (Ez (by assumption)) hqe oM (Zb hx oM oM)).symm):p:=h
theorem Gg {p:Prop}(h:p:=by simp[FL,FM]):p:=h
theorem MX (w:World)(dp:Nat)(vp:Value)(p:List Fn)(a:Nat)(hp:RN [] (rP (N7 dp)) w.heap vp p)(ha:a<p.length)(hpl:p.length≤1000000)(hz:Tq p) :
  Calls Tryz.prog 203 #[vp,.int .i64 ((a:Nat):Int)] w (fun e w'=>e=.returned (.bool (L4 p a))∧Az w w'):=by
 refine At [vp,.int .i64 ((a:Nat):Int)] 91 Tryz.func203 Z Z sM ?_
 have a4:Az w w:=Az.refl w
 have hza:=hz a ha
 refine A0 (Ad _ [0] Z (Ae 1 Z (A0 (Ad _ [0,0,0,2,0,0,0] Z (Af 1 Z (AU (hp.isPtr) Z Ac ?_))))))
 obtain⟨cs1,ay,al⟩:=RN.at (B4 _) hp
 obtain⟨a0,rfl,a5⟩:=RPr.of ay
 have ab:=a5.lenle
 unfold maxLen at ab
 refine AM (p:=vp) 0 BM Z (al _ (AE.of_ext [] a4)) Ac (Ak (p:=(Ay vp 0)) (.inr Z) a0 Cs Z ((al _ (AE.of_ext [] a4)).ld (i:=0) Gg) Ac (Af 1 Z (Au (v:=a0) a Gm CA Z Z a5.isSl Z sD Ac (Ae 1 Z (A0 (A0 (Ad _ [0,0,0,2,0,0,0,0,0,0,2,0,0,0,0,0,0,0,2,0,0,0,0] Z (Af 1 Z ?_))))))))
 refine AU (RN.isPtr (RN.ptr (AB dp) (by decide) Fn.zero a5 sD)) Z Ac ?_
 obtain⟨cs2,az,a3⟩:=a5.get (AB dp) Fn.zero (k:=a) sD
 obtain⟨a6,rfl,a9⟩:=RF.of az
 have ac:=a9.rn.lenle
 unfold maxLen at ac
 refine AM (p:=Aw a0 a 3) 0 GE Z (a3 _ (AE.of_ext [] a4)) Ac (Ak (p:=(Ay (Aw a0 a 3) 0)) (.inr Z) (.string ((p.getD a Fn.zero).name)) Nd Z ((a3 _ (AE.of_ext [] a4)).ld (i:=0) Gg) Ac (AD 234 [] [] [(.string ((p.getD a Fn.zero).name))] Z Z iI Ac (.bool (Pd ((p.getD a Fn.zero).name))) (fun wq=>Nr wq ((p.getD a Fn.zero).name) oM) (Bn (!(Pd ((p.getD a Fn.zero).name))) Z Z Ac (Af 1 Z ?_))))
 cases b1:(!(Pd ((p.getD a Fn.zero).name)))
 ·refine Af 1 Z (AU (RN.isPtr (RN.ptr (AB dp) (by decide) Fn.zero a5 sD)) Z (Al (e:=21) Z Z Z) (AM (p:=Aw a0 a 3) 1 Cw Z (a3 _ (AE.of_ext [] a4)) (Al (e:=21) Z Z Z) (Ak (p:=(Ay (Aw a0 a 3) 1)) (.inr Z) (.int .i64 ((p.getD a Fn.zero).params)) AH Z ((a3 _ (AE.of_ext [] a4)).ld (i:=1) Gg) (Al (e:=21) Z Z Z) ?_)))
  refine AD 92 [] [] [(.int .i64 ((p.getD a Fn.zero).params)),(.int .i64 ((0:Nat):Int)),(.int .i64 ((12:Nat):Int))] Z Z IC (Al (e:=21) Z Z Z) (.bool (decide (((0:Nat):Int)≤((p.getD a Fn.zero).params)) && decide (((p.getD a Fn.zero).params)≤((12:Nat):Int)))) (fun wq=>Br wq _ _ _ a9.rng oM oM) (Bn (!(decide (((0:Nat):Int)≤((p.getD a Fn.zero).params)) && decide (((p.getD a Fn.zero).params)≤((12:Nat):Int)))) Z Z (Al (e:=21) Z Z Z) (Af 2 Z ?_))
  cases b2:(!(decide (((0:Nat):Int)≤((p.getD a Fn.zero).params)) && decide (((p.getD a Fn.zero).params)≤((12:Nat):Int))))
  ·refine Af 1 Z (AU (RN.isPtr (RN.ptr (AB dp) (by decide) Fn.zero a5 sD)) Z (Al (e:=29) Z Z Z) (AM (p:=Aw a0 a 3) 2 Cu Z (a3 _ (AE.of_ext [] a4)) (Al (e:=29) Z Z Z) (Ak (p:=(Ay (Aw a0 a 3) 2)) (.inr Z) a6 Bp Z ((a3 _ (AE.of_ext [] a4)).ld (i:=2) Gg) (Al (e:=29) Z Z Z) (AJ (v:=a6) DK Z a9.rn.isSl (Al (e:=29) Z Z Z) ?_))))
   refine AD 92 [] [] [(.int .i64 ((((p.getD a Fn.zero).outs).length:Nat):Int)),(.int .i64 ((1:Nat):Int)),(.int .i64 ((12:Nat):Int))] Z Z IC (Al (e:=29) Z Z Z) (.bool (decide (((1:Nat):Int)≤((((p.getD a Fn.zero).outs).length:Nat):Int)) && decide (((((p.getD a Fn.zero).outs).length:Nat):Int)≤((12:Nat):Int)))) (fun wq=>Br wq _ _ _ oM oM oM) (Bn (!(decide (((1:Nat):Int)≤((((p.getD a Fn.zero).outs).length:Nat):Int)) && decide (((((p.getD a Fn.zero).outs).length:Nat):Int)≤((12:Nat):Int)))) Z Z (Al (e:=29) Z Z Z) (Ae 1 Z ?_))
   cases ar:(!(decide (((1:Nat):Int)≤((((p.getD a Fn.zero).outs).length:Nat):Int)) && decide (((((p.getD a Fn.zero).outs).length:Nat):Int)≤((12:Nat):Int))))
   ·refine Aj (by first|rfl|(show Value.bool _=_;rw[ar])) (A4 (A0 (A0 (Ad _ [0] Z (Ae 1 Z (A5 ?_))))))
    refine AN (S:=Nat) (fun k=>([(6,(.int .i64 ((k:Nat):Int))),(0,vp),(1,(.int .i64 ((a:Nat):Int))),(5,(Aw a0 a 3))])) (fun k W=>Az w W∧k≤a∧(p.take k).any (fun g=>GR g.name (p.getD a Fn.zero).name)=false) (fun k=>a-k) 0 ⟨rfl,rfl,rfl,rfl,trivial⟩ ⟨a4,sD,(by rfl)⟩ ?_
    clear a4 ab ac
    rintro k ρ9 w9 ⟨a7,au,hq⟩
    have am:w.heap.size≤w9.heap.size:=a7.size
    refine A0 (A0 (Ad _ [0,0,0] Z (Af 2 Z ?_)))
    by_cases ad:((k:Nat):Int)<((a:Nat):Int)
    ·refine Ax true Z Z (A7 ad) Ac (Ah (Ai Z (A4 (A0 (A5 (A0 (AY _ [0,0,0,1,0,0,0,1,0,0,0,1,0] mixed (by kernel_rfl) (Af 1 Z (AU (hp.isPtr) Z Ac (AM (p:=vp) 0 BM Z (al _ (AE.of_ext [] a7.drew)) Ac (Ak (p:=(Ay vp 0)) (.inl Z) a0 Cs Z ((al _ (AE.of_ext [] a7.drew)).ld (i:=0) Gg) Ac (Af 1 Z ?_))))))))))))
     refine Au (v:=a0) k Gm CA Z Z a5.isSl Z sD Ac ?_
     obtain⟨cs11,an,ae⟩:=a5.get (AB dp) Fn.zero (k:=k) sD
     obtain⟨b0,rfl,ao⟩:=RF.of an
     have af:=ao.rn.lenle
     unfold maxLen at af
     refine AM (p:=Aw a0 k 3) 0 GE Z (ae _ (AE.of_ext [] a7.drew)) Ac (Ak (p:=(Ay (Aw a0 k 3) 0)) (.inl Z) (.string ((p.getD k Fn.zero).name)) Nd Z ((ae _ (AE.of_ext [] a7.drew)).ld (i:=0) Gg) Ac (Af 1 Z (AU (RN.isPtr (RN.ptr (AB dp) (by decide) Fn.zero a5 sD)) Z Ac (AM (p:=Aw a0 a 3) 0 GE Z (a3 _ (AE.of_ext [] a7.drew)) Ac ?_))))
     refine Ak (p:=(Ay (Aw a0 a 3) 0)) (.inl Z) (.string ((p.getD a Fn.zero).name)) Nd Z ((a3 _ (AE.of_ext [] a7.drew)).ld (i:=0) Gg) Ac ?_
     cases ag:GR ((p.getD k Fn.zero).name) ((p.getD a Fn.zero).name)
     ·refine Qs false u9 Z Z ag Ac (Ah (Aj Z (A4 (Ad _ [0,0,0] Z (Af 1 Z (AI ((k+1:Nat):Int) Z Z (B8 oM sD) Ac (Ae 1 Z ?_)))))))
      exact⟨(k+1),_,rfl,⟨rfl,rfl,rfl,rfl,trivial⟩,⟨a7.drew,sD,(by exact XD Fn.zero oM hq (by assumption))⟩,by first|omega|(dsimp only;omega)⟩
     ·exact Qs true u9 Z Z ag Ac (Ah (Ai Z (A0 (Ad _ [0] Z (Ae 1 Z (A3 (AL (Aq (Aq (AL (Aq (Ag [4] Z (.bool false) Z ⟨Jk,a7.drew⟩))))))))))))
    ·refine Ax false Z Z (A8 ad) Ac (Ah (Aj Z (A6 (As (As (An (A0 (Ad _ [0] Z ?_))))))))
     have hka:k=a:=by omega
     rw[hka]at hq
     have hqa:=hq
     refine Ae 1 Z (A0 (A0 (Ad _ [0] Z (Ae 1 Z (A5 ?_)))))
     refine AN (S:=Nat×Int) (fun⟨j,x⟩=>([(7,(.int .i64 x)),(8,(.int .i64 ((j:Nat):Int))),(0,vp),(1,(.int .i64 ((a:Nat):Int))),(5,(Aw a0 a 3))])) (fun⟨j,x⟩ W=>Az w W∧j≤(p.getD a Fn.zero).outs.length∧x=Dh ((p.getD a Fn.zero).outs.take j) ((400:Nat):Int)∧(0≤x∧x≤400)∧(List.range j).all (fun j=>NO p ((p.getD a Fn.zero).outs.getD j Ex.zero) (p.getD a Fn.zero).params ((a:Nat):Int))=true) (fun⟨j,x⟩=>(p.getD a Fn.zero).outs.length-j) (0,((400:Nat):Int)) ⟨rfl,rfl,rfl,rfl,rfl,trivial⟩ ⟨a7,sD,(by rw[List.take_zero,Dh]),oM,(by rfl)⟩ ?_
     clear a7 am
     rintro⟨j,x⟩ ρ13 w13 ⟨a1,ap,hx,aq,hqe⟩
     have av:w.heap.size≤w13.heap.size:=a1.size
     refine A0 (A0 (Ad _ [0,0,0,0,2,0,0] Z (Af 2 Z (AU (RN.isPtr (RN.ptr (AB dp) (by decide) Fn.zero a5 sD)) Z Ac (AM (p:=Aw a0 a 3) 2 Cu Z (a3 _ (AE.of_ext [] a1)) Ac (Ak (p:=(Ay (Aw a0 a 3) 2)) (.inr Z) a6 Bp Z ((a3 _ (AE.of_ext [] a1)).ld (i:=2) Gg) Ac (AJ (v:=a6) DK Z a9.rn.isSl Ac ?_)))))))
     by_cases ah:((j:Nat):Int)<((((p.getD a Fn.zero).outs).length:Nat):Int)
     ·refine Ax true Z Z (A7 ah) Ac (Ah (Ai Z (A4 (A0 (A5 (A0 (Ad _ [0,0,0,2,0,0,0,3,0] Z ?_)))))))
      have hst:=D3 (l:=(p.getD a Fn.zero).outs) (k:=j) oM
      have hle:=CO (p.getD a Fn.zero).outs (j+1)
      have hnx:=NS (l:=(p.getD a Fn.zero).outs) (k:=j) (x:=((400:Nat):Int)) oM oM
      have hnr:=PS (e:=(p.getD a Fn.zero).outs.getD j Ex.zero) (x:=x) oM
      refine Af 1 Z (AU (RN.isPtr (RN.ptr (AB dp) (by decide) Fn.zero a5 sD)) Z Ac (AM (p:=Aw a0 a 3) 2 Cu Z (a3 _ (AE.of_ext [] a1)) Ac (Ak (p:=(Ay (Aw a0 a 3) 2)) (.inr Z) a6 Bp Z ((a3 _ (AE.of_ext [] a1)).ld (i:=2) Gg) Ac (Af 1 Z ?_))))
      refine Au (v:=a6) j DK BB Z Z a9.rn.isSl Z sD Ac (Af 1 Z ?_)
      refine Ap 235 [] [] [(Aw a6 j 5),(.int .i64 x)] Z Z Xf Ac (Ic _ dp (Aw a6 j 5) (((p.getD a Fn.zero).outs).getD j Ex.zero) _ (RN.ptr (AC dp) (by decide) Ex.zero (a9.rn.ext (Am (AC dp)) a1) sD) oM oM oM) ?_
      rintro e15 w15 ⟨rfl,aa⟩
      refine⟨_,rfl,aa,?_⟩
      have aw:=aa.size
      have a2:=a1.trans aa
      refine Ae 1 Z (A0 (AY _ [0,0,0,0,0,0,0,1,0,0,0,0,0,1,0,3,0,0] mixed (by kernel_rfl) (Af 1 Z ?_)))
      by_cases ai:IA (((p.getD a Fn.zero).outs).getD j Ex.zero) x<((0:Nat):Int)
      ·exact Ax true Z Z (A7 ai) Ac (Ae 16 Z (Ai Z (A0 (Ad _ [0] Z (Ae 1 Z (A3 (AL (Aq (Aq (AL (Aq (Ag [4] Z (.bool false) Z ⟨Jk,a2.drew⟩))))))))))))
      ·refine Ax false Z Z (A8 ai) Ac (Af 3 Z (AU (RN.isPtr (RN.ptr (AB dp) (by decide) Fn.zero a5 sD)) Z (Al (e:=75) Z Z Z) (AM (p:=Aw a0 a 3) 2 Cu Z (a3 _ (AE.of_ext [] a2.drew)) (Al (e:=75) Z Z Z) (Ak (p:=(Ay (Aw a0 a 3) 2)) (.inl Z) a6 Bp Z ((a3 _ (AE.of_ext [] a2.drew)).ld (i:=2) Gg) (Al (e:=75) Z Z Z) (Af 1 Z ?_)))))
       refine Au (v:=a6) j DK BB Z Z a9.rn.isSl Z sD (Al (e:=75) Z Z Z) (Af 1 Z ?_)
       refine AU (RN.isPtr (RN.ptr (AB dp) (by decide) Fn.zero a5 sD)) Z (Al (e:=75) Z Z Z) (AM (p:=Aw a0 a 3) 1 Cw Z (a3 _ (AE.of_ext [] a2.drew)) (Al (e:=75) Z Z Z) (Ak (p:=(Ay (Aw a0 a 3) 1)) (.inl Z) (.int .i64 ((p.getD a Fn.zero).params)) AH Z ((a3 _ (AE.of_ext [] a2.drew)).ld (i:=1) Gg) (Al (e:=75) Z Z Z) (Af 1 Z ?_)))
       refine Ap 236 [] [] [vp,(Aw a6 j 5),(.int .i64 ((p.getD a Fn.zero).params)),(.int .i64 ((a:Nat):Int))] Z Z iJ (Al (e:=75) Z Z Z) (MW _ dp vp (p) dp (Aw a6 j 5) (((p.getD a Fn.zero).outs).getD j Ex.zero) _ _ (hp.ext (Be (B4 dp)) a2.drew) (RN.ptr (AC dp) (by decide) Ex.zero (a9.rn.ext (Am (AC dp)) a2.drew) sD) a9.rng oM oM) ?_
       rintro e17 w17 ⟨rfl,a8⟩
       refine⟨_,rfl,a8,?_⟩
       replace a8:=a8.of_drew
       have ax:=a8.size
       have aj:=a2.trans a8
       refine Bn (!(NO p (((p.getD a Fn.zero).outs).getD j Ex.zero) ((p.getD a Fn.zero).params) ((a:Nat):Int))) Z Z (Al (e:=75) Z Z Z) (Ae 1 Z ?_)
       cases ak:(!(NO p (((p.getD a Fn.zero).outs).getD j Ex.zero) ((p.getD a Fn.zero).params) ((a:Nat):Int)))
       ·refine Aj (by first|rfl|(show Value.bool _=_;rw[ak])) (A4 (Ad _ [0,0,0] Z (Af 1 Z (AI ((j+1:Nat):Int) Z Z (B8 oM sD) Ac (Ae 1 Z ?_)))))
        exact⟨((j+1),(IA (((p.getD a Fn.zero).outs).getD j Ex.zero) x)),_,rfl,⟨rfl,rfl,rfl,rfl,rfl,trivial⟩,⟨aj,sD,(by rw[hnx,← hx]),oM,(by exact Ec hqe (Ez (by assumption)))⟩,by first|omega|(dsimp only;omega)⟩
       ·exact Ai (by first|rfl|(show Value.bool _=_;rw[ak])) (A0 (Ad _ [0] Z (Ae 1 Z (A3 (AL (Aq (Aq (AL (Aq (Ag [4] Z (.bool false) Z ⟨Jk,aj⟩))))))))))
     ·exact Ax false Z Z (A8 ah) Ac (Ah (Aj Z (A6 (As (As (An (A0 (Ad _ [0] Z (Ae 1 Z (A3 (Ag [4] Z (.bool true) Z ⟨Jk,a1⟩)))))))))))
   ·exact Ai (by first|rfl|(show Value.bool _=_;rw[ar])) (A0 (Ad _ [0] Z (Ae 1 Z (A3 (Aq (Ag [4] Z (.bool false) Z ⟨Jk,a4⟩))))))
  ·exact Ae 8 Z (Ai Z (A0 (Ad _ [0] Z (Ae 1 Z (A3 (Aq (Ag [4] Z (.bool false) Z ⟨Jk,a4⟩)))))))
 ·exact Ae 16 Z (Ai Z (A0 (Ad _ [0] Z (Ae 1 Z (A3 (Aq (Ag [4] Z (.bool false) Z ⟨Jk,a4⟩)))))))
theorem Ri {p:Prop}(h:p:=by first|exact AG (Xs oM)|exact AG (Xt oM oM oM hq)|exact AG (Je (k:=k) oM (Gb (by assumption)))):p:=h
theorem P7 (w:World)(dp:Nat)(vp:Value)(p:List Fn)(hp:RN [] (rP (N7 dp)) w.heap vp p)(hz:Tq p) :
  Calls Tryz.prog 157 #[vp] w (fun e w'=>e=.returned (.bool (Ln p))∧Az w w'):=by
 refine At [vp] 23 Tryz.func157 Z Z sM ?_
 have a1:Az w w:=Az.refl w
 refine A0 (Ad _ [0] Z (Ae 1 Z (A0 (A0 (Ad _ [0,0,0,2,0,0] Z (Af 1 Z (AU (hp.isPtr) Z Ac ?_)))))))
 obtain⟨cs1,ac,a3⟩:=RN.at (B4 _) hp
 obtain⟨a4,rfl,a5⟩:=RPr.of ac
 have a2:=a5.lenle
 unfold maxLen at a2
 refine AM (p:=vp) 0 BM Z (a3 _ (AE.of_ext [] a1)) Ac (Ak (p:=(Ay vp 0)) (.inr Z) a4 Cs Z ((a3 _ (AE.of_ext [] a1)).ld (i:=0) (by simp[FL,FM])) Ac (AJ (v:=a4) Gm Z a5.isSl Ac ?_))
 by_cases a7:((16:Nat):Int)<((p.length:Nat):Int)
 ·exact C6 true Z Z (A7 a7) Ac (Ah (Ai Z (A0 (Ad _ [0] Z (Ae 1 Z (A3 (Aq (Ag [2] Z (.bool false) Z ⟨Ri,a1⟩))))))))
 ·refine C6 false Z Z (A8 a7) Ac (Ah (Aj Z (A4 (A0 (A0 (Ad _ [0] Z (Ae 1 Z (A5 (AN (S:=Nat) (fun k=>([(3,(.int .i64 ((k:Nat):Int))),(0,vp)])) (fun k W=>Az w W∧k≤p.length∧(List.range k).all (L4 p)=true) (fun k=>p.length-k) 0 ⟨rfl,rfl,trivial⟩ ⟨a1,sD,(by rfl)⟩ ?_)))))))))
  clear a1 a2
  rintro k ρ3 w3 ⟨a0,a8,hq⟩
  have ad:w.heap.size≤w3.heap.size:=a0.size
  refine A0 (A0 (Ad _ [0,0,0,0,2,0,0] Z (Af 2 Z (AU (hp.isPtr) Z Ac (AM (p:=vp) 0 BM Z (a3 _ (AE.of_ext [] a0)) Ac (Ak (p:=(Ay vp 0)) (.inr Z) a4 Cs Z ((a3 _ (AE.of_ext [] a0)).ld (i:=0) (by simp[FL,FM])) Ac (AJ (v:=a4) Gm Z a5.isSl Ac ?_)))))))
  by_cases a9:((k:Nat):Int)<((p.length:Nat):Int)
  ·refine Ax true Z Z (A7 a9) Ac (Ah (Ai Z (A4 (A0 (A5 (A0 (Ad _ [0,0,3,0] Z (Af 2 Z (Ap 203 [] [] [vp,(.int .i64 ((k:Nat):Int))] Z Z gY Ac (MX _ dp vp (p) (k) (hp.ext (Be (B4 dp)) a0) oM oM (by exact hz)) ?_)))))))))
   rintro e5 w5 ⟨rfl,a6⟩
   refine⟨_,rfl,a6,?_⟩
   have ae:=a6.size
   have aa:=a0.trans a6
   refine Bn (!(L4 p k)) Z Z Ac (Ah ?_)
   cases ab:(!(L4 p k))
   ·refine Aj (by first|rfl|(show Value.bool _=_;rw[ab])) (A4 (Ad _ [0,0,0] Z (Af 1 Z (AI ((k+1:Nat):Int) Z Z (B8 oM sD) Ac (Ae 1 Z ?_)))))
    exact⟨(k+1),_,rfl,⟨rfl,rfl,trivial⟩,⟨aa,sD,(by exact Ec hq (Ez (by assumption)))⟩,by first|omega|(dsimp only;omega)⟩
   ·exact Ai (by first|rfl|(show Value.bool _=_;rw[ab])) (A0 (Ad _ [0] Z (Ae 1 Z (A3 (AL (Aq (Aq (AL (Aq (Ag [2] Z (.bool false) Z ⟨Ri,aa⟩))))))))))
  ·exact Ax false Z Z (A8 a9) Ac (Ah (Aj Z (A6 (As (As (An (A0 (Ad _ [0] Z (Ae 1 Z (A3 (Ag [2] Z (.bool true) Z ⟨Ri,a0⟩)))))))))))
theorem XF {p:Prop}(h:p:=by first|exact AV (aY (Gb (by assumption)))|exact AV (aZ (Ez (by assumption)) (Qe (Gb (by assumption))))|exact AV (bA (Ez (by assumption)) (I9 (Ez (by assumption))))):p:=h
theorem Lb (w:World)(dp:Nat)(vp:Value)(p:List Fn)(f:Int)(hp:RN [] (rP (N7 dp)) w.heap vp p)(_hf:BC f)(hz:Tq p) :
  Calls Tryz.prog 91 #[vp,.int .i64 f] w (fun e w'=>e=.returned (.int .i64 (IP p f))∧Az w w'):=by
 refine At [vp,.int .i64 f] 17 Tryz.func91 Z Z sM ?_
 have a3:Az w w:=Az.refl w
 refine A0 (Ad _ [0] Z (Ae 1 Z (A0 (A0 (Ad _ [0,3,0] Z (Af 1 Z (Ap 157 [] [] [vp] Z Z gG Ac (P7 _ dp vp (p) (hp.ext (Be (B4 dp)) a3) (by exact hz)) ?_)))))))
 rintro e1 w1 ⟨rfl,a1⟩
 refine⟨_,rfl,a1,?_⟩
 have a9:=a1.size
 have a0:=a3.trans a1
 refine Bn (!(Ln p)) Z Z Ac (Ah ?_)
 cases a4:(!(Ln p))
 ·refine Aj (by first|rfl|(show Value.bool _=_;rw[a4])) (A4 (A0 (A0 (Ad _ [0,0,0,0,2,0,0,0,0] Z (Af 2 Z (AU (hp.isPtr) Z Ac ?_))))))
  obtain⟨cs3,aa,a5⟩:=RN.at (B4 _) hp
  obtain⟨a6,rfl,a7⟩:=RPr.of aa
  have a2:=a7.lenle
  unfold maxLen at a2
  refine AM (p:=vp) 0 BM Z (a5 _ (AE.of_ext [] a0)) Ac (Ak (p:=(Ay vp 0)) (.inr Z) a6 Cs Z ((a5 _ (AE.of_ext [] a0)).ld (i:=0) (by simp[FL,FM])) Ac (AJ (v:=a6) Gm Z a7.isSl Ac (Cy (((p.length:Nat):Int)-1) Z Z (FR oM oM) Ac (AD 92 [] [] [(.int .i64 f),(.int .i64 ((0:Nat):Int)),(.int .i64 (((p.length:Nat):Int)-1))] Z Z IC Ac (.bool (decide (((0:Nat):Int)≤f) && decide (f≤(((p.length:Nat):Int)-1)))) (fun wq=>Br wq _ _ _ _hf oM oM) (Bn (!(decide (((0:Nat):Int)≤f) && decide (f≤(((p.length:Nat):Int)-1)))) Z Z Ac (Ah ?_))))))
  cases a8:(!(decide (((0:Nat):Int)≤f) && decide (f≤(((p.length:Nat):Int)-1))))
  ·exact Aj (by first|rfl|(show Value.bool _=_;rw[a8])) (A4 (A0 (Ad _ [0] Z (Ae 1 Z (A3 (Ag [4] Z (.int .i64 ((0:Nat):Int)) Z ⟨XF,a0⟩))))))
  ·exact Ai (by first|rfl|(show Value.bool _=_;rw[a8])) (A0 (Ad _ [0] Z (Ae 1 Z (A3 (Aq (Ag [4] Z (.int .i64 ((2:Nat):Int)) Z ⟨XF,a0⟩))))))
 ·exact Ai (by first|rfl|(show Value.bool _=_;rw[a4])) (A0 (Ad _ [0] Z (Ae 1 Z (A3 (Aq (Ag [4] Z (.int .i64 ((1:Nat):Int)) Z ⟨XF,a0⟩))))))
end
section
set_option maxHeartbeats 4000000
set_option maxRecDepth 100000
attribute [local irreducible] LW
theorem Dd (w:World)(x:Int)(K:Nat)(_hx:BC x)(_hK:K≤1000000000000)(hK:K≤1000000000) :
  Calls Tryz.prog 122 #[.int .i64 x,.int .i64 ((K:Nat):Int)] w (fun e w'=>∃v0:Value,e=.returned (v0)∧Az w w'∧Fr (AS rI 2) w.heap.size w'.heap.size w'.heap v0 (cst K x)):=by
 refine At [.int .i64 x,.int .i64 ((K:Nat):Int)] 14 Tryz.func122 Z Z sM ?_
 have a5:Az w w:=Az.refl w
 refine A0 (Ad _ [0] Z (Ae 1 Z (A0 (Ad _ [0,3,0] Z (Af 1 Z (EF (n:=K) Bh BA Z Z Z sD Ac fun v1 w1 a2 ab a0=>?_))))))
 have a6:=a2.size
 have a1:=a5.trans a2
 refine Ae 1 Z (A0 (A0 (Ad _ [0,0] Z (Af 1 Z ?_))))
 by_cases a3:((0:Nat):Int)<((K:Nat):Int)
 ·refine C6 true Z Z (A7 a3) Ac (Ah (Ai Z (Ad _ [0,0,0,4] Z (Af 2 Z (Au (v:=v1) 0 Bh BA Z Z a0.isSl Z sD Ac ?_)))))
  refine Fk (v:=v1) (w:=w1) ID Z Z _hx a0 sD Ac fun w3 F3 a4 ac a7 a8=>?_
  have a9:Az w w3:=a4.below a1 (fun c hc=>Aa (A9 _) (a7 c hc).1) a1.size
  have aa:=a4.size
  exact Ah (A0 (Ad _ [0,0] Z (Ae 2 Z (A3 (Ag [4] Z v1 Z ⟨v1,rfl,a9,(by exact a8.up o1)⟩)))))
 ·exact C6 false Z Z (A8 a3) Ac (Ah (Aj Z (A4 (A0 (Ad _ [0,0] Z (Ae 2 Z (A3 (Ag [4] Z v1 Z ⟨v1,rfl,a1,(by have h:=a0.up o1;obtain rfl:K=0:=oM;exact h)⟩))))))))
theorem Rj (a:List Int)(y:Int):scl a y=CD a y:=by
  unfold scl CD
  exact FU (d:=0) (k:=a.length) (fun r hr=>by rw[B5 (d:=0) hr,Bf _ hr]) (by simp) (by simp)
theorem CF {p:Prop}(h:p:=by first|omega|assumption|(simp only[List.length_nil,List.length_cons,List.length_append,List.length_set,List.length_replicate,DC];omega)|(simp[List.length_nil,List.length_cons,List.length_append,List.length_set,List.length_replicate,DC];done)|(simp[List.length_nil,List.length_cons,List.length_append,List.length_set,List.length_replicate,DC];omega)):p:=h
theorem IV (w:World)(va:Value)(a:List Int)(vb:Value)(b:List Int)(ha:Rd (B3 rI) w.heap va a)(hb:Rd (B3 rI) w.heap vb b)(hla:a.length≤1000000000000)(hl:a.length≤b.length) :
  Calls Tryz.prog 224 #[va,vb] w (fun e w'=>∃v0:Value,e=.returned (v0)∧Az w w'∧Fr (AS rI 2) w.heap.size w'.heap.size w'.heap v0 (DU a b)):=by
 refine At [va,vb] 27 Tryz.func224 Z Z sM ?_
 have a8:Az w w:=Az.refl w
 have hl_va:=ha.lenle
 have hl_vb:=hb.lenle
 refine A0 (Ad _ [0] Z (Ae 1 Z (A0 (Ad _ [3,0] Z (BI (rI) AQ Bh BA Ac fun v1 w1 a4 af a9=>?_)))))
 have a5:=a4.size
 have aa:=a8.trans a4
 refine Ae 1 Z (A0 (A0 (Ad _ [0] Z (Ae 1 Z (A5 ?_)))))
 refine AN (S:=Nat×Value) (fun⟨k,vo⟩=>([(5,vo),(6,(.int .i64 ((k:Nat):Int))),(0,va),(1,vb)])) (fun⟨k,vo⟩ W=>Az w W∧Fr (AS rI 2) w.heap.size W.heap.size W.heap vo (EU k (fun t=>md (a.getD t 0+b.getD t 0)))∧k≤a.length) (fun⟨k,vo⟩=>a.length-k) (0,v1) ⟨rfl,rfl,rfl,rfl,trivial⟩ ⟨aa,(by exact a9.up o1),CF⟩ ?_
 clear a8 a9 af a4 a5 aa
 rintro⟨k,vo⟩ ρ2 w2 ⟨a2,a1,ab⟩
 have ag:w.heap.size≤w2.heap.size:=a2.size
 refine A0 (A0 (Ad _ [0,0,0,0] Z (Af 2 Z (AJ (v:=va) Bh Z ha.isSl Ac ?_))))
 by_cases ac:((k:Nat):Int)<((a.length:Nat):Int)
 ·refine Ax true Z Z (A7 ac) Ac (Ah (Ai Z (A4 (A0 (A5 (AY _ [0,0,0,0,1,0,0,0,1,0,3,4,0] mixed (by kernel_rfl) (Af 3 Z (Au (v:=va) k Bh BA Z Z ha.isSl Z CF Ac ?_))))))))
  refine Ak (p:=Aw va k 1) (.inl Z) (.int .i64 (a.getD k 0)) AH Z (AP a2.drew (ha.getI CF).1) Ac (Af 2 Z ?_)
  refine Au (v:=vb) k Bh BA Z Z hb.isSl Z CF Ac ?_
  refine Ak (p:=Aw vb k 1) (.inl Z) (.int .i64 (b.getD k 0)) AH Z (AP a2.drew (hb.getI CF).1) Ac ?_
  refine AD 75 [] [] [(.int .i64 (a.getD k 0)),(.int .i64 (b.getD k 0))] Z Z fN Ac (.int .i64 (md ((a.getD k 0)+(b.getD k 0)))) (fun wq=>KZ wq _ _ (ha.getI CF).2 (hb.getI CF).2) ?_
  refine Bq (u:=(.int .i64 (md ((a.getD k 0)+(b.getD k 0))))) (B:=w2.heap.size) AQ Bh BA Z Z (N6 w2.heap.size w2.heap.size _ _ (Dt _)) (A9 _) Ac fun v5 w5 a3 al ad=>?_
  replace a3:=a3.of_drew
  have ah:=a3.size
  have a6:=a2.trans a3
  have a0:=a1.ext (o1) a3
  refine GA (v:=vo) (a:=v5) Bh BA Z Z Z a0 a6.size ad.rd1 CF (by unfold maxLen;first|omega|assumption|(simp[DC];done)|(simp[DC];omega)) Ac fun v6 w6 F6 a7 ae ai=>?_
  have aj:Az w w6:=a7.below a6 (fun c hc=>Aa (A9 _) (ae c hc).1) a6.size
  have ak:=a7.size
  have am:=ad.chg (o1) a7 (fun c hc=>by have:=ae c hc;omega)
  refine Ae 1 Z (Ad _ [0,0,0] Z (Af 1 Z (AI ((k+1:Nat):Int) Z Z (B8 oM CF) Ac (Ae 1 Z ?_))))
  exact⟨((k+1),v6),_,rfl,⟨rfl,rfl,rfl,rfl,trivial⟩,⟨aj,(by rw[LR];exact ai.up o1),CF⟩,by first|omega|(dsimp only;omega)⟩
 ·exact Ax false Z Z (A8 ac) Ac (Ah (Aj Z (A6 (As (As (An (A0 (Ad _ [0,0] Z (Ae 2 Z (A3 (Ag [4] Z vo Z ⟨vo,rfl,a2,(by have h:=a1.up o1;rw[show k=a.length from by omega]at h;exact h)⟩)))))))))))
theorem Ns (w:World)(va:Value)(a:List Int)(vb:Value)(b:List Int)(ha:Rd (B3 rI) w.heap va a)(hb:Rd (B3 rI) w.heap vb b)(hla:a.length≤1000000000000)(hlb:b.length≤1000000000000)(hl:a.length≤b.length) :
  Calls Tryz.prog 225 #[va,vb] w (fun e w'=>∃v0:Value,e=.returned (v0)∧Az w w'∧Fr (AS rI 2) w.heap.size w'.heap.size w'.heap v0 (Dg a b)):=by
 refine At [va,vb] 9 Tryz.func225 Z Z sM ?_
 have a7:Az w w:=Az.refl w
 have hl_va:=ha.lenle
 have hl_vb:=hb.lenle
 refine A0 (Ad _ [0] Z (Ae 1 Z (A0 (Ad _ [0,0,3,3,0] Z (Af 2 Z (Ap 176 [] [] [vb,(.int .i64 ((1000002:Nat):Int))] Z Z X6 Ac (Fw _ _ _ _ (hb.ext g1 a7) oM (by exact hlb)) ?_))))))
 rintro e1 w1 ⟨a3,rfl,a4,a0⟩
 refine⟨_,rfl,a4,?_⟩
 have a8:=a4.size
 have a5:=a7.trans a4
 refine Ap 224 [] [] [va,a3] Z Z aO Ac (IV _ _ _ _ _ (ha.ext g1 a5) a0.rd1 (by exact hla) (by unfold scl;simp;omega)) ?_
 rintro e2 w2 ⟨a1,rfl,a6,a2⟩
 refine⟨_,rfl,a6,?_⟩
 have a9:=a6.size
 have aa:=a5.trans a6
 exact Ae 1 Z (A3 (Ag [4] Z a1 Z ⟨a1,rfl,aa,(by rw[← Ux hl,← Rj];exact(a2.up o1).low a5.size)⟩))
theorem Nt (w:World)(va:Value)(a:List Int)(vb:Value)(b:List Int)(ha:Rd (B3 rI) w.heap va a)(hb:Rd (B3 rI) w.heap vb b)(hla:a.length≤1000000000000)(hl:a.length≤b.length) :
  Calls Tryz.prog 226 #[va,vb] w (fun e w'=>∃v0:Value,e=.returned (v0)∧Az w w'∧Fr (AS rI 2) w.heap.size w'.heap.size w'.heap v0 (C7 a b)):=by
 refine At [va,vb] 39 Tryz.func226 Z Z sM ?_
 have ab:Az w w:=Az.refl w
 have hl_va:=ha.lenle
 have hl_vb:=hb.lenle
 refine A0 (Ad _ [0] Z (Ae 1 Z (A0 (Ad _ [3,0] Z (BI (rI) AQ Bh BA Ac fun v1 w1 a5 ak ac=>?_)))))
 have a6:=a5.size
 have ad:=ab.trans a5
 refine Ae 1 Z (A0 (A0 (Ad _ [0] Z (Ae 1 Z (A5 ?_)))))
 refine AN (S:=Nat×Value) (fun⟨k,vo⟩=>([(5,vo),(6,(.int .i64 ((k:Nat):Int))),(0,va),(1,vb)])) (fun⟨k,vo⟩ W=>Az w W∧Fr (AS rI 2) w.heap.size W.heap.size W.heap vo (EU k (fun t=>N9 a b t (t+1)))∧k≤a.length) (fun⟨k,vo⟩=>a.length-k) (0,v1) ⟨rfl,rfl,rfl,rfl,trivial⟩ ⟨ad,(by exact ac.up o1),CF⟩ ?_
 clear ab ac ak a5 a6 ad
 rintro⟨k,vo⟩ ρ2 w2 ⟨a4,a0,ae⟩
 have a7:w.heap.size≤w2.heap.size:=a4.size
 refine A0 (A0 (Ad _ [0,0,0,0] Z (Af 2 Z (AJ (v:=va) Bh Z ha.isSl Ac ?_))))
 by_cases af:((k:Nat):Int)<((a.length:Nat):Int)
 ·refine Ax true Z Z (A7 af) Ac (Ah (Ai Z (A4 (A0 (A5 (A0 (Ad _ [0] Z (Ae 1 Z (A0 (A0 (Ad _ [0] Z (Ae 1 Z (A5 ?_)))))))))))))
  refine AN (S:=Nat×Int) (fun⟨i,s⟩=>([(7,(.int .i64 s)),(8,(.int .i64 ((i:Nat):Int))),(0,va),(1,vb),(5,vo),(6,(.int .i64 ((k:Nat):Int)))])) (fun⟨i,s⟩ W=>Az w W∧Fr (AS rI 2) w.heap.size W.heap.size W.heap vo (EU k (fun t=>N9 a b t (t+1)))∧i≤k+1∧s=N9 a b k i∧(0≤s∧s<1000003)) (fun⟨i,s⟩=>k+1-i) (0,((0:Nat):Int)) ⟨rfl,rfl,rfl,rfl,rfl,rfl,trivial⟩ ⟨a4,a0.up o1,CF,(by rfl),oM⟩ ?_
  clear a0 a4 a7
  rintro⟨i,s⟩ ρ4 w4 ⟨a3,a2,ag,hs,hsr⟩
  have al:w.heap.size≤w4.heap.size:=a3.size
  refine A0 (A0 (Ad _ [0,0,0] Z (Af 2 Z ?_)))
  by_cases ah:((i:Nat):Int)≤((k:Nat):Int)
  ·refine Ei true Z Z (A7 ah) Ac (Ah (Ai Z (A4 (A0 (A5 (AY _ [0,0,0,0,1,0,0,0,0,0,1,0,0,0] mixed (by kernel_rfl) (Af 3 Z (Au (v:=va) i Bh BA Z Z ha.isSl Z CF Ac ?_))))))))
   refine Ak (p:=Aw va i 1) (.inl Z) (.int .i64 (a.getD i 0)) AH Z (AP a3.drew (ha.getI CF).1) Ac (Af 3 Z (Cy ((k-i:Nat):Int) Z Z (by rw[FR oM oM];omega) Ac ?_))
   refine Au (v:=vb) (k-i) Bh BA Z Z hb.isSl Z CF Ac ?_
   refine Ak (p:=Aw vb (k-i) 1) (.inl Z) (.int .i64 (b.getD (k-i) 0)) AH Z (AP a3.drew (hb.getI CF).1) Ac ?_
   refine AD 76 [] [] [(.int .i64 (a.getD i 0)),(.int .i64 (b.getD (k-i) 0))] Z Z Nc Ac (.int .i64 (md ((a.getD i 0)*(b.getD (k-i) 0)))) (fun wq=>Cm wq _ _ (ha.getI CF).2 (hb.getI CF).2) ?_
   refine AD 75 [] [] [(.int .i64 s),(.int .i64 (md ((a.getD i 0)*(b.getD (k-i) 0))))] Z Z fN Ac (.int .i64 (md (s+(md ((a.getD i 0)*(b.getD (k-i) 0)))))) (fun wq=>KZ wq _ _ oM (Dt _)) (Ae 1 Z (Ad _ [0,0,0] Z (Af 1 Z (AI ((i+1:Nat):Int) Z Z (B8 oM CF) Ac (Ae 1 Z ?_)))))
   exact⟨((i+1),(md (s+(md ((a.getD i 0)*(b.getD (k-i) 0)))))),_,rfl,⟨rfl,rfl,rfl,rfl,rfl,rfl,trivial⟩,⟨a3.drew,a2.up o1,CF,(by rw[Gu,hs];rfl),(by exact BK _)⟩,by first|omega|(dsimp only;omega)⟩
  ·refine Ei false Z Z (A8 ah) Ac (Ah (Aj Z (A6 (As (As (An (Ad _ [0,0,3,4,0] Z (Af 2 Z (Bq (u:=(.int .i64 s)) (B:=w4.heap.size) AQ Bh BA Z Z (N6 w4.heap.size w4.heap.size _ _ oM) (A9 _) Ac fun v8 w8 a8 ar ai=>?_)))))))))
   have am:=a8.size
   have a9:=a3.trans a8
   have a1:=a2.ext (o1) a8
   refine GA (v:=vo) (a:=v8) Bh BA Z Z Z a1 a9.size ai.rd1 CF (by unfold maxLen;first|omega|assumption|(simp[DC];done)|(simp[DC];omega)) Ac fun v9 w9 F9 aa aj an=>?_
   have ao:Az w w9:=aa.below a9 (fun c hc=>Aa (A9 _) (aj c hc).1) a9.size
   have ap:=aa.size
   have aq:=ai.chg (o1) aa (fun c hc=>by have:=aj c hc;omega)
   refine Ae 1 Z (Ad _ [0,0,0] Z (Af 1 Z (AI ((k+1:Nat):Int) Z Z (B8 oM CF) Ac (Ae 1 Z ?_))))
   exact⟨((k+1),v9),_,rfl,⟨rfl,rfl,rfl,rfl,trivial⟩,⟨ao,(by rw[LR];have h:=an.up o1;rw[hs,show i=k+1 from by omega]at h;exact h),CF⟩,by first|omega|(dsimp only;omega)⟩
 ·exact Ax false Z Z (A8 af) Ac (Ah (Aj Z (A6 (As (As (An (A0 (Ad _ [0,0] Z (Ae 2 Z (A3 (Ag [4] Z vo Z ⟨vo,rfl,a4,(by have h:=a0.up o1;rw[show k=a.length from by omega]at h;exact h)⟩)))))))))))
theorem Dk {p:Prop}(h:p:=by first|omega|assumption|(simp only[List.length_nil,List.length_cons,List.length_append,List.length_set,List.length_replicate,DZ];omega)|(simp[List.length_nil,List.length_cons,List.length_append,List.length_set,List.length_replicate,DZ];done)|(simp[List.length_nil,List.length_cons,List.length_append,List.length_set,List.length_replicate,DZ];omega)):p:=h
theorem Nu (w:World)(va:Value)(a:List Int)(vb:Value)(b:List Int)(ha:Rd (B3 rI) w.heap va a)(hb:Rd (B3 rI) w.heap vb b)(hla:a.length≤1000000000000)(hl:a.length≤b.length)(h1:0<b.length)(hqa:B7 a=true) :
  Calls Tryz.prog 227 #[va,vb] w (fun e w'=>∃v0:Value,e=.returned (v0)∧Az w w'∧Fr (AS rI 2) w.heap.size w'.heap.size w'.heap v0 (BR a b)):=by
 refine At [va,vb] 50 Tryz.func227 Z Z sM ?_
 have ag:Az w w:=Az.refl w
 have hl_va:=ha.lenle
 have hl_vb:=hb.lenle
 refine A0 (Ad _ [0] Z (Ae 1 Z (A0 (Ad _ [3,0] Z (BI (rI) AQ Bh BA Ac fun v1 w1 aa ao ah=>?_)))))
 have ab:=aa.size
 have ac:=ag.trans aa
 refine Ae 1 Z (A0 (Ad _ [0,0,2,0,0] Z (Af 1 Z (Au (v:=vb) 0 Bh BA Z Z hb.isSl Z Dk Ac ?_))))
 refine Ak (p:=Aw vb 0 1) (.inr Z) (.int .i64 (b.getD 0 0)) AH Z (AP ac (hb.getI Dk).1) Ac ?_
 refine AD 175 [] [] [(.int .i64 (b.getD 0 0))] Z Z X5 Ac (.int .i64 (inv (b.getD 0 0))) (fun wq=>GF wq _ (hb.getI Dk).2) (Ae 1 Z (A0 (A0 (Ad _ [0] Z (Ae 1 Z (A5 ?_))))))
 refine AN (S:=Nat×Value) (fun⟨k,vo⟩=>([(5,vo),(7,(.int .i64 ((k:Nat):Int))),(0,va),(1,vb),(6,(.int .i64 (inv (b.getD 0 0))))])) (fun⟨k,vo⟩ W=>Az w W∧Fr (AS rI 2) w.heap.size W.heap.size W.heap vo (IN a b k)∧k≤a.length) (fun⟨k,vo⟩=>a.length-k) (0,v1) ⟨rfl,rfl,rfl,rfl,rfl,trivial⟩ ⟨ac,(by exact ah.up o1),Dk⟩ ?_
 clear ag ah ao aa ab ac
 rintro⟨k,vo⟩ ρ3 w3 ⟨a6,a1,ai⟩
 have ad:w.heap.size≤w3.heap.size:=a6.size
 refine A0 (A0 (Ad _ [0,0,0,0] Z (Af 2 Z (AJ (v:=va) Bh Z ha.isSl Ac ?_))))
 by_cases aj:((k:Nat):Int)<((a.length:Nat):Int)
 ·refine Ax true Z Z (A7 aj) Ac (Ah (Ai Z (A4 (A0 (A5 (A0 (Ad _ [0,0,0,2,0] Z (Af 2 Z (Au (v:=va) k Bh BA Z Z ha.isSl Z Dk Ac ?_)))))))))
  refine Ak (p:=Aw va k 1) (.inr Z) (.int .i64 (a.getD k 0)) AH Z (AP a6 (ha.getI Dk).1) Ac (Ae 1 Z (A0 (A0 (Ad _ [0] Z (Ae 1 Z (A5 ?_))))))
  refine AN (S:=Nat×Int) (fun⟨i,t⟩=>([(8,(.int .i64 t)),(9,(.int .i64 ((i:Nat):Int))),(0,va),(1,vb),(5,vo),(6,(.int .i64 (inv (b.getD 0 0)))),(7,(.int .i64 ((k:Nat):Int)))])) (fun⟨i,t⟩ W=>Az w W∧Fr (AS rI 2) w.heap.size W.heap.size W.heap vo (IN a b k)∧i≤k∧t=Of a b (IN a b k) k i∧(0≤t∧t<1000003)) (fun⟨i,t⟩=>k-i) (0,(a.getD k 0)) ⟨rfl,rfl,rfl,rfl,rfl,rfl,rfl,trivial⟩ ⟨a6,a1.up o1,Dk,(by rfl),(by exact Ba hqa k)⟩ ?_
  clear a1 a6 ad
  rintro⟨i,t⟩ ρ5 w5 ⟨a9,a0,ak,ht,htr⟩
  have ap:w.heap.size≤w5.heap.size:=a9.size
  refine A0 (A0 (Ad _ [0,0,0] Z (Af 2 Z ?_)))
  by_cases al:((i:Nat):Int)<((k:Nat):Int)
  ·refine Ax true Z Z (A7 al) Ac (Ah (Ai Z (A4 (A0 (A5 (AY _ [0,0,0,0,1,0,0,0,0,0,1,0,0,0] mixed (by kernel_rfl) ?_))))))
   have hmn:=BK ((IN a b k).getD i 0*b.getD (k-i) 0)
   refine Af 3 Z (Au (v:=vo) i Bh BA Z Z a0.isSl Z Dk Ac ?_)
   refine Ak (p:=Aw vo i 1) (.inl Z) (.int .i64 ((IN a b k).getD i 0)) AH Z (a0.rd1.getI Dk).1 Ac (Af 3 Z (Cy ((k-i:Nat):Int) Z Z (by rw[FR oM oM];omega) Ac ?_))
   refine Au (v:=vb) (k-i) Bh BA Z Z hb.isSl Z Dk Ac ?_
   refine Ak (p:=Aw vb (k-i) 1) (.inl Z) (.int .i64 (b.getD (k-i) 0)) AH Z (AP a9.drew (hb.getI Dk).1) Ac ?_
   refine AD 76 [] [] [(.int .i64 ((IN a b k).getD i 0)),(.int .i64 (b.getD (k-i) 0))] Z Z Nc Ac (.int .i64 (md (((IN a b k).getD i 0)*(b.getD (k-i) 0)))) (fun wq=>Cm wq _ _ (a0.rd1.getI Dk).2 (hb.getI Dk).2) ?_
   refine AD 124 [] [] [(.int .i64 t),(.int .i64 (md (((IN a b k).getD i 0)*(b.getD (k-i) 0))))] Z Z SE Ac (.int .i64 (md (t-(md (((IN a b k).getD i 0)*(b.getD (k-i) 0)))))) (fun wq=>E3 wq _ _ oM (Dt _) oM) (Ae 1 Z (Ad _ [0,0,0] Z (Af 1 Z (AI ((i+1:Nat):Int) Z Z (B8 oM Dk) Ac (Ae 1 Z ?_)))))
   exact⟨((i+1),(md (t-(md (((IN a b k).getD i 0)*(b.getD (k-i) 0)))))),_,rfl,⟨rfl,rfl,rfl,rfl,rfl,rfl,rfl,trivial⟩,⟨a9.drew,a0.up o1,Dk,(by rw[JB,ht];rfl),(by exact BK _)⟩,by first|omega|(dsimp only;omega)⟩
  ·refine Ax false Z Z (A8 al) Ac (Ah (Aj Z (A6 (As (As (An (Ad _ [0,0,0,0,3,4,0] Z (Af 3 Z (AD 76 [] [] [(.int .i64 t),(.int .i64 (inv (b.getD 0 0)))] Z Z Nc Ac (.int .i64 (md (t*(inv (b.getD 0 0))))) (fun wq=>Cm wq _ _ oM (Lg _)) (Bq (u:=(.int .i64 (md (t*(inv (b.getD 0 0)))))) (B:=w5.heap.size) AQ Bh BA Z Z (N6 w5.heap.size w5.heap.size _ _ (Dt _)) (A9 _) Ac fun v10 w10 a3 aq a7=>?_))))))))))
   have am:=a3.size
   have a4:=a9.trans a3
   have a2:=a0.ext (o1) a3
   refine GA (v:=vo) (a:=v10) Bh BA Z Z Z a2 a4.size a7.rd1 Dk (by unfold maxLen;first|omega|assumption|(simp[DZ];done)|(simp[DZ];omega)) Ac fun v11 w11 F11 a5 a8 ae=>?_
   have af:Az w w11:=a5.below a4 (fun c hc=>Aa (A9 _) (a8 c hc).1) a4.size
   have an:=a5.size
   have ar:=a7.chg (o1) a5 (fun c hc=>by have:=a8 c hc;omega)
   refine Ae 1 Z (Ad _ [0,0,0] Z (Af 1 Z (AI ((k+1:Nat):Int) Z Z (B8 oM Dk) Ac (Ae 1 Z ?_))))
   exact⟨((k+1),v11),_,rfl,⟨rfl,rfl,rfl,rfl,rfl,trivial⟩,⟨af,(by have h:=ae.up o1;rw[ht,show i=k from by omega]at h;exact h),Dk⟩,by first|omega|(dsimp only;omega)⟩
 ·exact Ax false Z Z (A8 aj) Ac (Ah (Aj Z (A6 (As (As (An (A0 (Ad _ [0,0] Z (Ae 2 Z (A3 (Ag [4] Z vo Z ⟨vo,rfl,a6,(by have h:=a1.up o1;rw[show k=a.length from by omega]at h;exact h)⟩)))))))))))
end
section
set_option maxHeartbeats 4000000
set_option maxRecDepth 100000
attribute [local irreducible] LW
def SV (F d:Nat):Prop:=∀(w:World) (S:List Nat) (g:Nat) (pp:Value) (dp n s0:Nat) (c0:Int) (p:List Fn) (ve:Value) (ex:Ex) (vv:Value) (env:List (List Int)) (hS:∀b∈S,b<w.heap.size) (hgS:g∈S) (hB0:BX w.heap g [pp,.int .i64 ((n:Nat):Int),.int .i64 ((s0:Nat):Int),.int .i64 c0]) (hp:RN S (rP (N7 dp)) w.heap pp p) (hn:1≤n∧n≤13) (hs0:s0≤3000) (hc0:0≤c0∧c0≤9) (hex:RN S (rP (Iv d)) w.heap ve ex) (henv:RN S (B3 (B3 rI)) w.heap vv env) (hqenv:CK vv)
  (hvp:Iz p) (hF:F≤p.length) (hwf:wf p ((F:Nat):Int) ex ((env.length:Nat):Int)=true) (hse:Bt n env) (hdp:env.length+ex.deep≤1000000),
  Calls Tryz.prog 193 #[.pointer (some ⟨g,0,none⟩),ve,vv] w (fun e w'=>∃(v:Value) (x:List Int) (s1:Nat) (c1:Int),e=.returned v∧AE [g] w w'∧BX w'.heap g [pp,.int .i64 ((n:Nat):Int),.int .i64 ((s1:Nat):Int),.int .i64 c1]∧RN S (B3 rI) w'.heap v x∧Bs n x∧s1≤3000∧(0≤c1∧c1≤9)∧AT (go c0 (Eb n (H1 p n F) ex env s0)) x s1 c1)
def SC (F d:Nat):Prop:=∀(w:World) (S:List Nat) (g:Nat) (pp:Value) (dp n s0:Nat) (c0:Int) (p:List Fn) (ve:Value) (ex:Ex) (vv:Value) (env:List (List Int)) (hS:∀b∈S,b<w.heap.size) (hgS:g∈S) (hB0:BX w.heap g [pp,.int .i64 ((n:Nat):Int),.int .i64 ((s0:Nat):Int),.int .i64 c0]) (hp:RN S (rP (N7 dp)) w.heap pp p) (hn:1≤n∧n≤13) (hs0:s0≤3000) (hc0:0≤c0∧c0≤9) (hex:RN S (rP (Iv d)) w.heap ve ex) (henv:RN S (B3 (B3 rI)) w.heap vv env) (hqenv:CK vv)
  (hvp:Iz p) (hF:F≤p.length) (hwf:wf p ((F:Nat):Int) ex ((env.length:Nat):Int)=true) (hse:Bt n env) (hdp:env.length+ex.deep≤1000000) (hk:ex.kind=10∨ex.kind=11),
  Calls Tryz.prog 223 #[.pointer (some ⟨g,0,none⟩),ve,vv] w (fun e w'=>∃(v:Value) (x:List Int) (s1:Nat) (c1:Int),e=.returned v∧AE [g] w w'∧BX w'.heap g [pp,.int .i64 ((n:Nat):Int),.int .i64 ((s1:Nat):Int),.int .i64 c1]∧RN S (B3 rI) w'.heap v x∧Bs n x∧s1≤3000∧(0≤c1∧c1≤9)∧AT (go c0 (KX n (H1 p n F) ex env s0)) x s1 c1)
def SO (F:Nat):Prop:=∀(w:World) (S:List Nat) (g:Nat) (pp:Value) (dp n s0:Nat) (c0:Int) (p:List Fn) (dfx:Nat) (vf:Value) (fx:Fn) (va:Value) (env:List (List Int)) (hS:∀b∈S,b<w.heap.size) (hgS:g∈S) (hB0:BX w.heap g [pp,.int .i64 ((n:Nat):Int),.int .i64 ((s0:Nat):Int),.int .i64 c0]) (hp:RN S (rP (N7 dp)) w.heap pp p) (hn:1≤n∧n≤13) (hs0:s0≤3000) (hc0:0≤c0∧c0≤9) (hfx:RN S (rP (XQ dfx)) w.heap vf fx) (henv:RN S (B3 (B3 rI)) w.heap va env) (hqenv:CK va)
  (hvp:Iz p) (hF:F≤p.length) (hwf:∀k,k<fx.outs.length→wf p ((F:Nat):Int) (fx.outs.getD k Ex.zero) ((env.length:Nat):Int)=true) (hse:Bt n env) (hdp:∀k,k<fx.outs.length→env.length+(fx.outs.getD k Ex.zero).deep≤1000000) (hll:fx.outs.length≤1000000),
  Calls Tryz.prog 145 #[.pointer (some ⟨g,0,none⟩),vf,va] w (fun e w'=>∃(v:Value) (x:List (List Int)) (s1:Nat) (c1:Int),e=.returned v∧AE [g] w w'∧BX w'.heap g [pp,.int .i64 ((n:Nat):Int),.int .i64 ((s1:Nat):Int),.int .i64 c1]∧RN S (B3 (B3 rI)) w'.heap v x∧(CK v∧x.length=fx.outs.length∧Bt n x)∧s1≤3000∧(0≤c1∧c1≤9)∧AT (go c0 (E7 n (H1 p n F) fx.outs env s0)) x s1 c1)
theorem Db (w:World)(S:List Nat)(g:Nat)(pp:Value)(dp n s0:Nat)(c0:Int)(p:List Fn)(code:Int)(hS:∀b∈S,b<w.heap.size)(hgS:g∈S)(hB0:BX w.heap g [pp,.int .i64 ((n:Nat):Int),.int .i64 ((s0:Nat):Int),.int .i64 c0])(hp:RN S (rP (N7 dp)) w.heap pp p)(hn:1≤n∧n≤13)(hs0:s0≤3000)(hc0:0≤c0∧c0≤9)(_hcode:BC code)(hcd:1≤code∧code≤9) :
  Calls Tryz.prog 221 #[.pointer (some ⟨g,0,none⟩),.int .i64 code] w (fun e w'=>∃(v:Value) (x:List Int) (s1:Nat) (c1:Int),e=.returned v∧AE [g] w w'∧BX w'.heap g [pp,.int .i64 ((n:Nat):Int),.int .i64 ((s1:Nat):Int),.int .i64 c1]∧RN S (B3 rI) w'.heap v x∧Bs n x∧s1≤3000∧(0≤c1∧c1≤9)∧(s1=s0∧c1=if c0=0 then code else c0)):=by
 refine At [.pointer (some ⟨g,0,none⟩),.int .i64 code] 19 Tryz.func221 Z Z sM ?_
 have a9:AE [g] w w:=AE.refl [g] w
 have hgl:=hB0.lt
 refine A0 (Ad _ [0] Z (Ae 1 Z (A0 (A0 (Ad _ [0,0,0,2,0] Z (Af 1 Z (Bw Z Ac (Ao (p:=(.pointer (some ⟨g,0,none⟩))) (b:=g) (o:=0) 3 FJ Z Z Ac (Ak (p:=(Ay (.pointer (some ⟨g,0,none⟩)) 3)) (.inr Z) (.int .i64 c0) AH Z (hB0.ldp (i:=3) sM) Ac ?_)))))))))
 by_cases aa:c0=((0:Nat):Int)
 ·refine AA true Z Z (A7 aa) Ac (Ah (Ai Z (Ad _ [0,0,0,0,4] Z (Af 2 Z (Bw Z Ac (Ao (p:=(.pointer (some ⟨g,0,none⟩))) (b:=g) (o:=0) 3 FJ Z Z Ac (Co (k:=3) (w:=w) ID Z Z ⟨rfl,rfl⟩ hB0 sM Ac fun w2 ab ai a6=>?_)))))))
  replace a6:BX w2.heap g [pp,(.int .i64 ((n:Nat):Int)),(.int .i64 ((s0:Nat):Int)),(.int .i64 code)]:=a6
  have ac:AE [g] w w2:=a9.trans ab
  have ad:=ab.size
  refine Ah (A0 (Ad _ [0,0,0,2,3,0] Z (Af 1 Z (Bw Z Ac (Ao (p:=(.pointer (some ⟨g,0,none⟩))) (b:=g) (o:=0) 1 OT Z Z Ac (Ak (p:=(Ay (.pointer (some ⟨g,0,none⟩)) 1)) (.inr Z) (.int .i64 ((n:Nat):Int)) YX Z (a6.ldp (i:=1) sM) Ac ?_))))))
  refine Ap 122 [] [] [(.int .i64 ((0:Nat):Int)),(.int .i64 ((n:Nat):Int))] Z Z Qb Ac (Dd _ _ (n) oM sD oM) ?_
  rintro e3 w3 ⟨a0,rfl,a7,a1⟩
  refine⟨_,rfl,a7,?_⟩
  have ae:=a7.size
  have af:AE [g] w w3:=ac.ext a7
  have a2:=a6.ext a7
  exact Ae 1 Z (A3 (Ag [4] Z a0 Z ⟨a0,cst n ((0:Nat):Int),s0,code,rfl,af,a2,(RN.of_fr1 a1 (fun b hb=>by have:=hS b hb;omega)),(by exact DE (by decide)),oM,oM,(by exact⟨rfl,by first|(rw[if_pos oM])|(rw[if_neg oM])⟩)⟩))
 ·refine AA false Z Z (A8 aa) Ac (Ah (Aj Z (A4 (A0 (Ad _ [0,0,0,2,3,0] Z (Af 1 Z (Bw Z Ac (Ao (p:=(.pointer (some ⟨g,0,none⟩))) (b:=g) (o:=0) 1 OT Z Z Ac (Ak (p:=(Ay (.pointer (some ⟨g,0,none⟩)) 1)) (.inr Z) (.int .i64 ((n:Nat):Int)) YX Z (hB0.ldp (i:=1) sM) Ac ?_)))))))))
  refine Ap 122 [] [] [(.int .i64 ((0:Nat):Int)),(.int .i64 ((n:Nat):Int))] Z Z Qb Ac (Dd _ _ (n) oM sD oM) ?_
  rintro e4 w4 ⟨a3,rfl,a8,a4⟩
  refine⟨_,rfl,a8,?_⟩
  have ag:=a8.size
  have ah:AE [g] w w4:=a9.ext a8
  have a5:=hB0.ext a8
  exact Ae 1 Z (A3 (Ag [4] Z a3 Z ⟨a3,cst n ((0:Nat):Int),s0,c0,rfl,ah,a5,(RN.of_fr1 a4 (fun b hb=>by have:=hS b hb;omega)),(by exact DE (by decide)),oM,oM,(by exact⟨rfl,by first|(rw[if_pos oM])|(rw[if_neg oM])⟩)⟩))
theorem XG {p:Prop}(h:p:=by unfold maxLen;first|omega|assumption|(simp only[List.length_nil,List.length_cons,List.length_append,List.length_set,List.length_replicate];omega)|(simp[List.length_nil,List.length_cons,List.length_append,List.length_set,List.length_replicate];done)|(simp[List.length_nil,List.length_cons,List.length_append,List.length_set,List.length_replicate];omega)):p:=h
theorem Nv (w:World)(S:List Nat)(vv:Value)(env:List (List Int))(vx:Value)(x:List Int)(hS:∀b∈S,b<w.heap.size)(henv:RN S (B3 (B3 rI)) w.heap vv env)(hqenv:CK vv)(hx:RN S (B3 rI) w.heap vx x)(hel:env.length≤1000000) :
  Calls Tryz.prog 222 #[vv,vx] w (fun e w'=>∃v,e=.returned v∧Az w w'∧RN S (B3 (B3 rI)) w'.heap v (env++[x])∧CK v):=by
 refine At [vv,vx] 25 Tryz.func222 Z Z sM ?_
 have ai:Az w w:=Az.refl w
 have hl_vv:=henv.lenL
 unfold maxLen at hl_vv
 have hl_vx:=hx.lenL
 unfold maxLen at hl_vx
 refine A0 (Ad _ [0] Z (Ae 1 Z (A0 (Ad _ [3,0] Z (BI rV Bd Bi AX Ac fun v1 w1 a7 aq aj=>?_)))))
 have a8:=a7.size
 have ak:=ai.trans a7
 obtain⟨b2,F1,b3⟩:=Ii.nil (S:=S) (aj.low (B':=w.heap.size) (A9 _))
 refine Ae 1 Z (A0 (A0 (Ad _ [0] Z (Ae 1 Z (A5 (AN (S:=Nat×Value) (fun⟨k,vo⟩=>([(5,vo),(6,(.int .i64 ((k:Nat):Int))),(0,vv),(1,vx)])) (fun⟨k,vo⟩ W=>Az w W∧k≤env.length∧Qr 27 S w.heap.size W.heap vo (env.take k)) (fun⟨k,vo⟩=>env.length-k) (0,v1) ⟨rfl,rfl,rfl,rfl,trivial⟩ ⟨ak,sD,(by exact⟨_,_,by assumption⟩)⟩ ?_))))))
 clear ai aj aq a7 a8 ak
 rintro⟨k,vo⟩ ρ2 w2 ⟨a6,al,hbld⟩
 have ar:w.heap.size≤w2.heap.size:=a6.size
 obtain⟨b4,F4,a3⟩:=hbld
 refine A0 (A0 (Ad _ [0,0,0,0] Z (Af 2 Z (AJ (v:=vv) Bi Z henv.slL Ac ?_))))
 by_cases am:((k:Nat):Int)<((env.length:Nat):Int)
 ·refine Ax true Z Z (A7 am) Ac (Ah (Ai Z (A4 (A0 (A5 (Ad _ [0,0,0,0,2,3,4,0] Z (Af 3 Z (Au (v:=vv) k Bi AX Z Z henv.slL Z sD Ac ?_))))))))
  obtain⟨a9,au,aa⟩:=RN.getL (w:=w) g1 [] (k:=k) henv sD
  have ab:=aa.lenL
  unfold maxLen at ab
  refine Ak (p:=Aw vv k 1) (.inr Z) a9 B6 Z (au _ (AE.of_ext S a6)) Ac (Bq (u:=a9) (B:=w2.heap.size) Bd Bi AX Z Z (Nz w2.heap.size w2.heap.size _ (aa.one1 g1)) (A9 _) Ac fun v7 w7 ac b5 av=>?_)
  have aw:=ac.size
  have ad:=a6.trans ac
  have ae:=a3.ext ac
  refine Fl (v:=vo) (a:=v7) (u:=a9) Bi AX Z Z Z ae oM av ((aa.add (F:=F4) g1 ae.low).ext g1 ad) sD XG Ac ?_
  rintro v9 w9 G9 an ax ⟨b6,F9,b7⟩
  have ay:=an.size
  have az:Az w w9:=an.below ad (fun c hc=>ae.low c (ax c hc)) ad.size
  refine Ae 1 Z (Ad _ [0,0,0] Z (Af 1 Z (AI ((k+1:Nat):Int) Z Z (B8 oM sD) Ac (Ae 1 Z ?_))))
  exact⟨((k+1),v9),_,rfl,⟨rfl,rfl,rfl,rfl,trivial⟩,⟨az,sD,(by rw[Cr [] oM];exact⟨_,_,by assumption⟩)⟩,by first|omega|(dsimp only;omega)⟩
 ·refine Ax false Z Z (A8 am) Ac (Ah (Aj Z (A6 (As (As (An (A0 (Ad _ [0,0,3,4,0] Z (Af 2 Z (Bq (u:=vx) (B:=w2.heap.size) Bd Bi AX Z Z (Nz w2.heap.size w2.heap.size _ (hx.one1 g1)) (A9 _) Ac fun v10 w10 a0 b0 af=>?_))))))))))
  have ao:=a0.size
  have a1:=a6.trans a0
  have a2:=a3.ext a0
  refine Fl (v:=vo) (a:=v10) (u:=vx) Bi AX Z Z Z a2 oM af ((hx.add (F:=F4) g1 a2.low).ext g1 a1) sD XG Ac ?_
  rintro v12 w12 G12 a4 ag ⟨b1,F12,a5⟩
  have ap:=a4.size
  have ah:Az w w12:=a4.below a1 (fun c hc=>a2.low c (ag c hc)) a1.size
  exact Ae 1 Z (A3 (Ag [4] Z v12 Z ⟨v12,rfl,ah,(by have h9:=(a5.done hS);rw[List.take_of_length_le oM]at h9;exact h9),a5.cap⟩))
theorem Jl (w:World)(S:List Nat)(F:Nat)(g:Nat)(pp:Value)(dp n s0:Nat)(c0:Int)(p:List Fn)(dfx:Nat)(vf:Value)(fx:Fn)(va:Value)(env:List (List Int))(hS:∀b∈S,b<w.heap.size)(hgS:g∈S)(hB0:BX w.heap g [pp,.int .i64 ((n:Nat):Int),.int .i64 ((s0:Nat):Int),.int .i64 c0])(hp:RN S (rP (N7 dp)) w.heap pp p)(hn:1≤n∧n≤13)(hs0:s0≤3000)(hc0:0≤c0∧c0≤9)(hfx:RN S (rP (XQ dfx)) w.heap vf fx)(henv:RN S (B3 (B3 rI)) w.heap va env)(hqenv:CK va)(hvp:Iz p)(hF:F≤p.length)(hwf:∀k,k<fx.outs.length→wf p ((F:Nat):Int) (fx.outs.getD k Ex.zero) ((env.length:Nat):Int)=true)(hse:Bt n env)(hdp:∀k,k<fx.outs.length→env.length+(fx.outs.getD k Ex.zero).deep≤1000000)(hll:fx.outs.length≤1000000)(IHv:∀d,SV F d) :
  Calls Tryz.prog 145 #[.pointer (some ⟨g,0,none⟩),vf,va] w (fun e w'=>∃(v:Value) (x:List (List Int)) (s1:Nat) (c1:Int),e=.returned v∧AE [g] w w'∧BX w'.heap g [pp,.int .i64 ((n:Nat):Int),.int .i64 ((s1:Nat):Int),.int .i64 c1]∧RN S (B3 (B3 rI)) w'.heap v x∧(CK v∧x.length=fx.outs.length∧Bt n x)∧s1≤3000∧(0≤c1∧c1≤9)∧AT (go c0 (E7 n (H1 p n F) fx.outs env s0)) x s1 c1):=by
 refine At [.pointer (some ⟨g,0,none⟩),vf,va] 32 Tryz.func145 Z Z sM ?_
 have ao:AE [g] w w:=AE.refl [g] w
 have hl_va:=henv.lenL
 unfold maxLen at hl_va
 have hgl:=hB0.lt
 refine A0 (Ad _ [0] Z (Ae 1 Z (A0 (Ad _ [3,0] Z (BI rV Bd Bi AX Ac fun v1 w1 aa az ap=>?_)))))
 have ae:=aa.size
 have aq:AE [g] w w1:=ao.ext aa
 have a9:=hB0.ext aa
 obtain⟨bc,F1,bd⟩:=Ii.nil (S:=S) (ap.low (B':=w.heap.size) (A9 _))
 refine Ae 1 Z (A0 (A0 (Ad _ [0] Z (Ae 1 Z (A5 ?_)))))
 refine AN (S:=Nat×Value×List (List Int)×Nat×Int) (fun⟨k,vo,xs,s9,c9⟩=>([(7,vo),(8,(.int .i64 ((k:Nat):Int))),(0,(.pointer (some ⟨g,0,none⟩))),(1,vf),(2,va)])) (fun⟨k,vo,xs,s9,c9⟩ W=>AE [g] w W∧BX W.heap g [pp,.int .i64 ((n:Nat):Int),.int .i64 ((s9:Nat):Int),.int .i64 c9]∧k≤fx.outs.length∧Qr 27 S w.heap.size W.heap vo xs∧xs.length=k∧Bt n xs∧s9≤3000∧(0≤c9∧c9≤9)∧AT (go c0 (E7 n (H1 p n F) (fx.outs.take k) env s0)) xs s9 c9) (fun⟨k,vo,xs,s9,c9⟩=>fx.outs.length-k) (0,v1,([]:List (List Int)),s0,c0) ⟨rfl,rfl,rfl,rfl,rfl,trivial⟩ ⟨aq,a9,sD,(by exact⟨_,_,by assumption⟩),(by rfl),(by intro j hj;simp at hj),oM,oM,(by exact Ik _ _ _ _ _ _)⟩ ?_
 clear ao ap az aa ae aq
 rintro⟨k,vo,xs,s9,c9⟩ ρ2 w2 ⟨a3,a1,ar,hbld,hxl,hxs,au,av,hrl⟩
 have b0:w.heap.size≤w2.heap.size:=a3.size
 have be:=a1.lt
 obtain⟨bf,F5,a0⟩:=hbld
 refine A0 (A0 (Ad _ [0,0,0,0,2,0,0] Z (Af 2 Z (AU (hfx.isPtr) Z Ac ?_))))
 obtain⟨cs6,b1,ab⟩:=RN.at (AB _) hfx
 obtain⟨a8,rfl,ac⟩:=RF.of b1
 have af:=ac.rn.lenle
 unfold maxLen at af
 refine AM (p:=vf) 2 Cu Z (ab _ (a3.sub (Bg hgS))) Ac (Ak (p:=(Ay vf 2)) (.inr Z) a8 Bp Z ((ab _ (a3.sub (Bg hgS))).ld (i:=2) (by simp[FL,FM])) Ac (AJ (v:=a8) DK Z ac.rn.isSl Ac ?_))
 by_cases aw:((k:Nat):Int)<((fx.outs.length:Nat):Int)
 ·refine Ax true Z Z (A7 aw) Ac (Ah (Ai Z (A4 (A0 (A5 (Ad _ [0,0,0,0,0,2,0,0,0,4,3,4,0] Z (Af 3 Z (AU (hfx.isPtr) Z Ac (AM (p:=vf) 2 Cu Z (ab _ (a3.sub (Bg hgS))) Ac (Ak (p:=(Ay vf 2)) (.inr Z) a8 Bp Z ((ab _ (a3.sub (Bg hgS))).ld (i:=2) (by simp[FL,FM])) Ac (Af 1 Z ?_)))))))))))
  refine Au (v:=a8) k DK BB Z Z ac.rn.isSl Z sD Ac (Af 1 Z ?_)
  refine B1 193 [] [] [(.pointer (some ⟨g,0,none⟩)),(Aw a8 k 5),va] Z Z I2 Ac (IHv dfx _ (S++F5) g pp dp (n) (s9) (c9) (p) (Aw a8 k 5) (fx.outs.getD k Ex.zero) va (env) (fun b hb=>(by rcases List.mem_append.1 hb with hb|hb;(have:=hS b hb;omega);exact a0.lt b hb:b<w2.heap.size)) (List.mem_append_left _ hgS) a1 ((hp.add (F:=F5) (Be (B4 dp)) a0.low).chg (Be (B4 dp)) (a3.sub (Qq hgS))) oM oM oM (RN.ptr (AC dfx) (by decide) Ex.zero ((ac.rn.add (F:=F5) (Am (AC dfx)) a0.low).chg (Am (AC dfx)) (a3.sub (Qq hgS))) sD) ((henv.add (F:=F5) g2 a0.low).chg g2 (a3.sub (Qq hgS))) hqenv (by exact hvp) oM (by exact hwf k oM) (by exact hse) (by exact hdp k oM)) ?_
  rintro e8 w8 ⟨v8,x8,s8,c8,rfl,ag,b2,ad,ah,b3,b4,b5⟩
  refine⟨_,rfl,?_⟩
  have b6:=ag.size
  have b7:AE [g] w w8:=a3.trans ag
  have ai:=a0.run hgS oM ag
  have b8:=ah.1
  replace ad:RN (S++F5) (B3 rI) w8.heap v8 x8:=ad
  refine Bq (u:=v8) (B:=w8.heap.size) Bd Bi AX Z Z (Nz w8.heap.size w8.heap.size _ (ad.one1 g1)) (A9 _) Ac fun v14 w14 a2 b9 aj=>?_
  have ax:=a2.size
  have ak:AE [g] w w14:=b7.ext a2
  have a5:=b2.ext a2
  have a4:=ai.ext a2
  have al:=ad.ext g1 a2
  refine Fl (v:=vo) (a:=v14) (u:=v8) Bi AX Z Z Z a4 oM aj al sD (by unfold maxLen;first|omega|assumption|(simp;done)|(simp;omega)) Ac ?_
  rintro v17 w17 G17 a6 a7 ⟨ba,F17,bb⟩
  have ay:=a6.size
  have am:AE [g] w w17:=ak.fresh a6 (fun c hc=>a4.low c (a7 c hc))
  have an:=a5.chg a6 (fun hm=>by have:=a4.low _ (a7 _ hm);have:=a4.lt _ (a7 _ hm);omega)
  refine Ae 1 Z (Ad _ [0,0,0] Z (Af 1 Z (AI ((k+1:Nat):Int) Z Z (B8 oM sD) Ac (Ae 1 Z ?_))))
  exact⟨((k+1),v17,(xs++[x8]),s8,c8),_,rfl,⟨rfl,rfl,rfl,rfl,rfl,trivial⟩,⟨am,an,sD,(by exact⟨_,_,by assumption⟩),(by rw[List.length_append,List.length_singleton,hxl]),(by exact Bt.snoc hxs (by assumption)),oM,oM,(by exact HW oM hrl (by assumption))⟩,by first|omega|(dsimp only;omega)⟩
 ·exact Ax false Z Z (A8 aw) Ac (Ah (Aj Z (A6 (As (As (An (A0 (Ad _ [0,0] Z (Ae 2 Z (A3 (Ag [6] Z vo Z ⟨vo,xs,s9,c9,rfl,a3,a1,(a0.done hS),(by exact⟨a0.cap,by omega,hxs⟩),oM,oM,(by rw[List.take_of_length_le oM]at hrl;exact hrl)⟩)))))))))))
theorem XH (F:Nat)(IH:∀d,SV F d):SO F:=by
 intro w S g pp dp n s0 c0 p dfx vf fx va env hS hgS hB0 hp hn hs0 hc0 hfx henv hqenv hvp hF hwf hse hdp hll
 exact Jl w S F g pp dp n s0 c0 p dfx vf fx va env hS hgS hB0 hp hn hs0 hc0 hfx henv hqenv hvp hF hwf hse hdp hll IH
theorem XI {p:Prop}(h:p:=by first|exact Vc oM oM hKr (by assumption)|exact Vf oM oM hKr (by rw[show(ex.count).toNat=i from by omega];exact hrl9)):p:=h
theorem HD {p:Prop}(h:p:=by simp[FL,FM]):p:=h
theorem Jm (w:World)(S:List Nat)(F:Nat)(g:Nat)(pp:Value)(dp n s0:Nat)(c0:Int)(p:List Fn)(dex:Nat)(ve:Value)(ex:Ex)(vv:Value)(env:List (List Int))(hS:∀b∈S,b<w.heap.size)(hgS:g∈S)(hB0:BX w.heap g [pp,.int .i64 ((n:Nat):Int),.int .i64 ((s0:Nat):Int),.int .i64 c0])(hp:RN S (rP (N7 dp)) w.heap pp p)(hn:1≤n∧n≤13)(hs0:s0≤3000)(hc0:0≤c0∧c0≤9)(hex:RN S (rP (Iv dex)) w.heap ve ex)(henv:RN S (B3 (B3 rI)) w.heap vv env)(hqenv:CK vv)(hvp:Iz p)(hF:F≤p.length)(hwf:wf p ((F:Nat):Int) ex ((env.length:Nat):Int)=true)(hse:Bt n env)(hdp:env.length+ex.deep≤1000000)(hk:ex.kind=10∨ex.kind=11)(IH1:∀F',F'<F→∀d,SV F' d)(IH2:∀d',d'<dex→SV F d') :
  Calls Tryz.prog 223 #[.pointer (some ⟨g,0,none⟩),ve,vv] w (fun e w'=>∃(v:Value) (x:List Int) (s1:Nat) (c1:Int),e=.returned v∧AE [g] w w'∧BX w'.heap g [pp,.int .i64 ((n:Nat):Int),.int .i64 ((s1:Nat):Int),.int .i64 c1]∧RN S (B3 rI) w'.heap v x∧Bs n x∧s1≤3000∧(0≤c1∧c1≤9)∧AT (go c0 (KX n (H1 p n F) ex env s0)) x s1 c1):=by
 refine At [.pointer (some ⟨g,0,none⟩),ve,vv] 81 Tryz.func223 Z Z sM ?_
 have bo:AE [g] w w:=AE.refl [g] w
 have hl_vv:=henv.lenL
 unfold maxLen at hl_vv
 have hgl:=hB0.lt
 have hwk:=Lm hwf hk
 have ay:ex.kind≠9:=by omega
 have hkH:=Ds hk
 clear hk
 have hdk:=EG ex
 refine A0 (Ad _ [0] Z (Ae 1 Z (A0 (Ad _ [3,0] Z (BI rV Bd Bi AX Ac fun v1 w1 az cf bp=>?_)))))
 have b2:=az.size
 have bq:AE [g] w w1:=bo.ext az
 have am:=hB0.ext az
 obtain⟨cv,F1,cw⟩:=Ii.nil (S:=S) (bp.low (B':=w.heap.size) (A9 _))
 refine Ae 1 Z (A0 (A0 (Ad _ [0] Z (Ae 1 Z (A5 ?_)))))
 refine AN (S:=Nat×Value×List (List Int)×Nat×Int) (fun⟨k,vo,xs,s9,c9⟩=>([(7,vo),(8,(.int .i64 ((k:Nat):Int))),(0,(.pointer (some ⟨g,0,none⟩))),(1,ve),(2,vv)])) (fun⟨k,vo,xs,s9,c9⟩ W=>AE [g] w W∧BX W.heap g [pp,.int .i64 ((n:Nat):Int),.int .i64 ((s9:Nat):Int),.int .i64 c9]∧k≤ex.kids.length∧Qr 27 S w.heap.size W.heap vo xs∧xs.length=k∧Bt n xs∧s9≤3000∧(0≤c9∧c9≤9)∧AT (go c0 (E7 n (H1 p n F) (ex.kids.take k) env s0)) xs s9 c9) (fun⟨k,vo,xs,s9,c9⟩=>ex.kids.length-k) (0,v1,([]:List (List Int)),s0,c0) ⟨rfl,rfl,rfl,rfl,rfl,trivial⟩ ⟨bq,am,sD,(by exact⟨_,_,by assumption⟩),(by rfl),(by intro j hj;simp at hj),oM,oM,(by exact Ik _ _ _ _ _ _)⟩ ?_
 clear bo bp cf az b2 bq
 rintro⟨k,vo,xs,s9,c9⟩ ρ2 w2 ⟨a0,a1,br,hbld,hxl,hxs,bs,bt,hrl⟩
 have b3:w.heap.size≤w2.heap.size:=a0.size
 have cx:=a1.lt
 obtain⟨cy,F5,a3⟩:=hbld
 refine A0 (A0 (Ad _ [0,0,0,0,2,0,0] Z (Af 2 Z (AU (hex.isPtr) Z Ac ?_))))
 obtain⟨cs6,cg,a7⟩:=RN.at (AC _) hex
 obtain⟨dd6,al,cz,rfl,b0⟩:=RX.of cg
 have an:=b0.rn.lenle
 unfold maxLen at an
 refine AM (p:=ve) 4 Bo Z (a7 _ (a0.sub (Bg hgS))) Ac (Ak (p:=(Ay ve 4)) (.inr Z) al Bp Z ((a7 _ (a0.sub (Bg hgS))).ld (i:=4) HD) Ac (AJ (v:=al) DK Z b0.rn.isSl Ac ?_))
 by_cases bu:((k:Nat):Int)<((ex.kids.length:Nat):Int)
 ·refine Ax true Z Z (A7 bu) Ac (Ah (Ai Z (A4 (A0 (A5 (Ad _ [0,0,0,0,0,2,0,0,0,4,3,4,0] Z ?_))))))
  have hvo:=hvp.outs (ex.num).toNat oM
  have hvr:=hvp.par (ex.num).toNat oM
  have hkd:=Fz (l:=ex.kids) (k:=k) oM
  have hkb:ex.kids.length≤412:=by omega
  refine Af 3 Z (AU (hex.isPtr) Z Ac (AM (p:=ve) 4 Bo Z (a7 _ (a0.sub (Bg hgS))) Ac (Ak (p:=(Ay ve 4)) (.inr Z) al Bp Z ((a7 _ (a0.sub (Bg hgS))).ld (i:=4) HD) Ac (Af 1 Z (Au (v:=al) k DK BB Z Z b0.rn.isSl Z sD Ac (Af 1 Z ?_))))))
  refine B1 193 [] [] [(.pointer (some ⟨g,0,none⟩)),(Aw al k 5),vv] Z Z I2 Ac (IH2 dd6 oM _ (S++F5) g pp dp (n) (s9) (c9) (p) (Aw al k 5) (ex.kids.getD k Ex.zero) vv (env) (fun b hb=>(by rcases List.mem_append.1 hb with hb|hb;(have:=hS b hb;omega);exact a3.lt b hb:b<w2.heap.size)) (List.mem_append_left _ hgS) a1 ((hp.add (F:=F5) (Be (B4 dp)) a3.low).chg (Be (B4 dp)) (a0.sub (Qq hgS))) oM oM oM (RN.ptr (AC dd6) (by decide) Ex.zero ((b0.rn.add (F:=F5) (Am (AC dd6)) a3.low).chg (Am (AC dd6)) (a0.sub (Qq hgS))) sD) ((henv.add (F:=F5) g2 a3.low).chg g2 (a0.sub (Qq hgS))) hqenv (by exact hvp) oM (by exact GC hwf oM oM) (by exact hse) oM) ?_
  rintro e8 w8 ⟨v8,x8,s8,c8,rfl,b4,ch,b1,b5,ci,cj,ck⟩
  refine⟨_,rfl,?_⟩
  have cl:=b4.size
  have cm:AE [g] w w8:=a0.trans b4
  have b6:=a3.run hgS oM b4
  have cn:=b5.1
  replace b1:RN (S++F5) (B3 rI) w8.heap v8 x8:=b1
  refine Bq (u:=v8) (B:=w8.heap.size) Bd Bi AX Z Z (Nz w8.heap.size w8.heap.size _ (b1.one1 g1)) (A9 _) Ac fun v14 w14 a8 co b7=>?_
  have bv:=a8.size
  have b8:AE [g] w w14:=cm.ext a8
  have af:=ch.ext a8
  have ab:=b6.ext a8
  have b9:=b1.ext g1 a8
  refine Fl (v:=vo) (a:=v14) (u:=v8) Bi AX Z Z Z ab oM b7 b9 sD (by unfold maxLen;first|omega|assumption|(simp;done)|(simp;omega)) Ac ?_
  rintro v17 w17 G17 ag ah ⟨cp,F17,cq⟩
  have bw:=ag.size
  have ba:AE [g] w w17:=b8.fresh ag (fun c hc=>ab.low c (ah c hc))
  have bb:=af.chg ag (fun hm=>by have:=ab.low _ (ah _ hm);have:=ab.lt _ (ah _ hm);omega)
  refine Ae 1 Z (Ad _ [0,0,0] Z (Af 1 Z (AI ((k+1:Nat):Int) Z Z (B8 oM sD) Ac (Ae 1 Z ?_))))
  exact⟨((k+1),v17,(xs++[x8]),s8,c8),_,rfl,⟨rfl,rfl,rfl,rfl,rfl,trivial⟩,⟨ba,bb,sD,(by exact⟨_,_,by assumption⟩),(by rw[List.length_append,List.length_singleton,hxl]),(by exact Bt.snoc hxs (by assumption)),oM,oM,(by exact HW oM hrl (by assumption))⟩,by first|omega|(dsimp only;omega)⟩
 ·refine Ax false Z Z (A8 bu) Ac (Ah (Aj Z (A6 (As (As (An (A0 (AY _ [0,0,0,1,0,0,1,0,0,0,1,0,0] mixed (by kernel_rfl) ?_))))))))
  have ad:=a3.done hS
  have hfn19c:=a3.cap
  have hvo:=hvp.outs (ex.num).toNat oM
  have hvr:=hvp.par (ex.num).toNat oM
  have hxk:xs.length=ex.kids.length:=by omega
  have hKr:AT (go c0 (E7 n (H1 p n F) ex.kids env s0)) xs s9 c9:=by rw[List.take_of_length_le oM]at hrl;exact hrl
  refine Af 1 Z (Bw Z Ac (Ao (p:=(.pointer (some ⟨g,0,none⟩))) (b:=g) (o:=0) 0 Z0 Z Z Ac (Ak (p:=(Ay (.pointer (some ⟨g,0,none⟩)) 0)) (.inl Z) pp iS Z (a1.ldp (i:=0) sM) Ac (AU (hp.isPtr) Z Ac ?_))))
  obtain⟨cs20,bc,ao⟩:=RN.at (B4 _) hp
  obtain⟨a4,rfl,a9⟩:=RPr.of bc
  have ae:=a9.lenle
  unfold maxLen at ae
  refine AM (p:=pp) 0 BM Z (ao _ (a0.drew.sub (Bg hgS))) Ac (Ak (p:=(Ay pp 0)) (.inl Z) a4 Cs Z ((ao _ (a0.drew.sub (Bg hgS))).ld (i:=0) HD) Ac (Af 1 Z (AU (hex.isPtr) Z Ac (AM (p:=ve) 1 BT Z (a7 _ (a0.drew.sub (Bg hgS))) Ac (Ak (p:=(Ay ve 1)) (.inl Z) (.int .i64 ex.num) AH Z ((a7 _ (a0.drew.sub (Bg hgS))).ld (i:=1) HD) Ac ?_)))))
  refine Au (v:=a4) ((ex.num).toNat) Gm CA Z Z a9.isSl oM sD Ac (Ae 1 Z (A0 (A0 (Ad _ [0,0,0,2,0] Z (Af 1 Z (AU (hex.isPtr) Z Ac (AM (p:=ve) 0 C5 Z (a7 _ (a0.drew.sub (Bg hgS))) Ac (Ak (p:=(Ay ve 0)) (.inr Z) (.int .i64 ex.kind) AH Z ((a7 _ (a0.drew.sub (Bg hgS))).ld (i:=0) HD) Ac ?_))))))))
  by_cases ap:ex.kind=((10:Nat):Int)
  ·refine AA true Z Z (A7 ap) Ac (Ah (Ai Z (A0 (AY _ [0,0,0,0,1,0,0,0,1,0,0,4,0] mixed (by kernel_rfl) (Af 2 Z ?_)))))
   have hvd:=hvp.deep (ex.num).toNat oM (ex.pick).toNat oM
   refine AU (RN.isPtr (RN.ptr (AB dp) (by decide) Fn.zero a9 sD)) Z Ac ?_
   obtain⟨cs22,bd,aq⟩:=a9.get (AB dp) Fn.zero (k:=((ex.num).toNat)) sD
   obtain⟨ac,rfl,ai⟩:=RF.of bd
   have ar:=ai.rn.lenle
   unfold maxLen at ar
   refine AM (p:=Aw a4 ((ex.num).toNat) 3) 2 Cu Z (aq _ (a0.drew.drew.sub (Bg hgS))) Ac (Ak (p:=(Ay (Aw a4 ((ex.num).toNat) 3) 2)) (.inl Z) ac Bp Z ((aq _ (a0.drew.drew.sub (Bg hgS))).ld (i:=2) HD) Ac (Af 1 Z (AU (hex.isPtr) Z Ac (AM (p:=ve) 2 Dn Z (a7 _ (a0.drew.drew.sub (Bg hgS))) Ac (Ak (p:=(Ay ve 2)) (.inl Z) (.int .i64 ex.pick) AH Z ((a7 _ (a0.drew.drew.sub (Bg hgS))).ld (i:=2) HD) Ac ?_)))))
   refine Au (v:=ac) ((ex.pick).toNat) DK BB Z Z ai.rn.isSl oM sD Ac (Af 1 Z ?_)
   refine B1 193 [] [] [(.pointer (some ⟨g,0,none⟩)),(Aw ac ((ex.pick).toNat) 5),vo] Z Z I2 Ac (IH1 (ex.num).toNat oM dp _ S g pp dp (n) (s9) (c9) (p) (Aw ac ((ex.pick).toNat) 5) (((p.getD ((ex.num).toNat) Fn.zero).outs).getD ((ex.pick).toNat) Ex.zero) vo (xs) (fun b hb=>(by have:=hS b hb;omega:b<w2.heap.size)) hgS a1 (hp.chg (Be (B4 dp)) (a0.drew.drew.sub (Bg hgS))) oM oM oM (RN.ptr (AC dp) (by decide) Ex.zero (ai.rn.chg (Am (AC dp)) (a0.drew.drew.sub (Bg hgS))) sD) ad hfn19c (by exact hvp) oM (by have h9:=hvp.wf (ex.num).toNat oM (ex.pick).toNat oM;rw[show((xs.length:Nat):Int)=(p.getD (ex.num).toNat Fn.zero).params from by omega];exact h9) (by exact hxs) oM) ?_
   rintro e23 w23 ⟨v23,x23,s23,c23,rfl,a5,be,bf,au,bx,bz,c2⟩
   refine⟨_,rfl,?_⟩
   replace a5:=a5.of_drew
   replace a5:=a5.of_drew
   have c3:=a5.size
   have bg:AE [g] w w23:=a0.trans a5
   have cr:=ad.run g2 hgS a5
   have c4:=au.1
   exact Ae 1 Z (A3 (Aq (Ag [6] Z v23 Z ⟨v23,x23,s23,c23,rfl,bg,be,bf,(by first|assumption|exact hks _ oM),oM,oM,XI⟩)))
  ·refine AA false Z Z (A8 ap) Ac (Ah (Aj Z (A4 (A0 (A0 (Ad _ [0] Z ?_))))))
   have bh:ex.kind=11:=by have h9:ex.kind=10∨ex.kind=11:=hkH;omega
   have hwl:=S4 hwf bh
   refine Ae 1 Z (A5 ?_)
   refine AN (S:=Nat×Value×List (List Int)×Nat×Int) (fun⟨i,vk,ks,s8,c8⟩=>([(7,vk),(10,(.int .i64 ((i:Nat):Int))),(0,(.pointer (some ⟨g,0,none⟩))),(1,ve),(9,(Aw a4 ((ex.num).toNat) 3))])) (fun⟨i,vk,ks,s8,c8⟩ W=>AE [g] w W∧BX W.heap g [pp,.int .i64 ((n:Nat):Int),.int .i64 ((s8:Nat):Int),.int .i64 c8]∧i≤(ex.count).toNat∧RN S (B3 (B3 rI)) W.heap vk ks∧CK vk∧ks.length=(p.getD (ex.num).toNat Fn.zero).outs.length∧Bt n ks∧s8≤3000∧(0≤c8∧c8≤9)∧AT (go c9 (Lk (fun a t=>E7 n (H1 p n (ex.num).toNat) (p.getD (ex.num).toNat Fn.zero).outs a t) i xs s9)) ks s8 c8) (fun⟨i,vk,ks,s8,c8⟩=>(ex.count).toNat-i) (0,vo,xs,s9,c9) ⟨rfl,rfl,rfl,rfl,rfl,trivial⟩ ⟨a0.drew,a1,oM,(by assumption),(by assumption),oM,(by assumption),oM,oM,(by exact Ve Z)⟩ ?_
   clear a1 a0 b3 an ae
   rintro⟨i,vk,ks,s8,c8⟩ ρ31 w31 ⟨a2,a6,bi,hrk,hck,hkl,hks,bj,bk,hrl9⟩
   have c5:w.heap.size≤w31.heap.size:=a2.size
   have cs:=a6.lt
   refine A0 (A0 (Ad _ [0,0,0,0,2,0] Z (Af 2 Z (AU (hex.isPtr) Z Ac (AM (p:=ve) 3 D9 Z (a7 _ (a2.sub (Bg hgS))) Ac (Ak (p:=(Ay ve 3)) (.inr Z) (.int .i64 ex.count) AH Z ((a7 _ (a2.sub (Bg hgS))).ld (i:=3) HD) Ac ?_))))))
   by_cases av:((i:Nat):Int)<ex.count
   ·refine Ax true Z Z (A7 av) Ac (Ah (Ai Z (A4 (A0 (A5 (Ad _ [0,0,0,4,0] Z (Af 3 Z ?_)))))))
    refine B1 145 [] [] [(.pointer (some ⟨g,0,none⟩)),(Aw a4 ((ex.num).toNat) 3),vk] Z Z X3 Ac (XH (ex.num).toNat (fun d9=>IH1 (ex.num).toNat oM d9) _ S g pp dp (n) (s8) (c8) (p) dp (Aw a4 ((ex.num).toNat) 3) (p.getD ((ex.num).toNat) Fn.zero) vk (ks) (fun b hb=>(by have:=hS b hb;omega:b<w31.heap.size)) hgS a6 (hp.chg (Be (B4 dp)) (a2.sub (Bg hgS))) oM oM oM (RN.ptr (AB dp) (by decide) Fn.zero (a9.chg (Am (AB dp)) (a2.sub (Bg hgS))) sD) hrk hck (by exact hvp) oM (by intro k9 ay;have h9:=hvp.wf (ex.num).toNat oM k9 ay;rw[show((ks.length:Nat):Int)=(p.getD (ex.num).toNat Fn.zero).params from by omega];exact h9) (by exact hks) (by intro k9 ay;have:=hvp.deep (ex.num).toNat oM k9 ay;omega) oM) ?_
    rintro e34 w34 ⟨v34,x34,s34,c34,rfl,aj,bl,ct,aa,c6,c7,ca⟩
    refine⟨_,rfl,?_⟩
    have cb:=aj.size
    have bm:AE [g] w w34:=a2.trans aj
    have cu:=hrk.run g2 hgS aj
    have cc:=aa.2.1
    have cd:=aa.2.2
    have ce:=aa.1
    exact Ae 1 Z (Ad _ [0,0,0] Z (Af 1 Z (AI ((i+1:Nat):Int) Z Z (B8 oM oM) Ac (Ae 1 Z ⟨((i+1),v34,x34,s34,c34),_,rfl,⟨rfl,rfl,rfl,rfl,rfl,trivial⟩,⟨bm,bl,oM,(by assumption),(by assumption),oM,(by assumption),oM,oM,(by exact Vd hrl9 (by assumption))⟩,by first|omega|(dsimp only;omega)⟩))))
   ·refine Ax false Z Z (A8 av) Ac (Ah (Aj Z (A6 (As (As (An (A0 (Ad _ [0,0,0,0,2,0,2,0] Z (Af 2 Z (AU (hex.isPtr) Z Ac (AM (p:=ve) 2 Dn Z (a7 _ (a2.sub (Bg hgS))) Ac (Ak (p:=(Ay ve 2)) (.inr Z) (.int .i64 ex.pick) AH Z ((a7 _ (a2.sub (Bg hgS))).ld (i:=2) HD) Ac ?_))))))))))))
    refine Au (v:=vk) ((ex.pick).toNat) Bi AX Z Z hrk.slL oM sD Ac ?_
    obtain⟨ak,bn,aw⟩:=RN.getL (w:=w31) g1 [] (k:=(ex.pick).toNat) hrk sD
    have ax:=aw.lenL
    unfold maxLen at ax
    exact Ak (p:=Aw vk ((ex.pick).toNat) 1) (.inr Z) ak B6 Z (bn _ (AE.refl _ _)) Ac (Ae 1 Z (A3 (Ag [6] Z ak Z ⟨ak,ks.getD ((ex.pick).toNat) [],s8,c8,rfl,a2,a6,aw,(by first|assumption|exact hks _ oM),oM,oM,XI⟩)))
end
end Go.Proofs.YtnokbaiemimhjaaGreat
