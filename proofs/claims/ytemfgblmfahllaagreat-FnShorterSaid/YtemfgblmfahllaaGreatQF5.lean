/- Ux, Ix, Jx, Ju, Jv, FwZ, Zf, Jw, Za, Zb, Zd, Ze, Zg, Zh, Zi, Zj: texts of this claim, joined; what the claim does not come to is left out. -/
import Derived.Test.YtemfgblmfahllaaGreatQF4
import Derived.Test.YtemfgblmfahllaaGreatProg
import Derived.Laws.StructEq
import Derived.Deep.Strs
import Derived.DeepKeys3
set_option linter.unusedVariables false
set_option linter.unusedSimpArgs false
namespace Go.Proofs.YtemfgblmfahllaaGreat
open Go Go.RowKit
section
set_option maxHeartbeats 4000000
set_option maxRecDepth 100000
attribute [local irreducible] LW
theorem Y5 {p:Prop}(h:p:=by first|(rw[hrx];done)|(rw[hrx];rfl)|(rw[← NE ‹PM _ _ _ _›])):p:=h
theorem FT (w:World)(a:Sr)(ipT:Int)(vtc vtg vtx:Value)(T:Tp)(oT:Sr)(vd:Value)(d:Sr)(_hipT:Bd ipT)(htcT:RN [] (CK 4 Gs) w.heap vtc T.code)(htgT:RN [] (CK 2 FV) w.heap vtg T.grd)(htoT:RN [] (Bl rI) w.heap vtx oT)(hd:Rd (Bl rI) w.heap vd d)(hip:ipT=(a.length:Int))(hR:Iz a T oT)(hdd:d.length=a.length∧Bj d=true) :
    Calls Tryz.prog 62 #[(.agg #[(zI ipT),vtc,vtg,vtx]),vd] w (fun e w'=>∃v0:Value,e=.returned (.tuple #[v0,zI (DC d T.code)])∧AD w w'∧Fr (BD rI 2) w.heap.size w'.heap.size w'.heap v0 (Ly d T.code)):=by
  refine Aw [.agg #[zI ipT,vtc,vtg,vtx],vd] 28 Tryz.func62 Z Z sM ?_
  have an:AD w w:=AD.refl w
  have hl_vtx:=htoT.lenL
  unfold maxLen at hl_vtx
  have b3:=hd.lenle
  have hK:=hR.k
  have hni:=hK.nb
  have hcl:=hK.cl
  have b5:=hK.gl
  have hol:=hK.ol
  have hpos:=hK.pos
  refine fQ [3,0,0] Z (BC (cs:=#[zI ipT,vtc,vtg,vtx]) Z Ac fun w1 aj b0 aa=>?_)
  have ao:=aj.size
  have ap:=an.trans aj
  replace aa:BX w1.heap w.heap.size [zI ipT,vtc,vtg,vtx]:=aa
  refine Ae 2 Z<|A0<|fQ [2,0,3,3,0] Z<|AC (p:=zP w.heap.size) (.inr Z) [zI ipT,vtc,vtg,vtx] BE Z (fun b4 af=>LD.of_box<|BX.ext (w:=w1) aa af) Z Ac<|Af 1 Z (BQ (u:=vd) (B:=w1.heap.size) BY BJ BR Z Z (Qo w1.heap.size w1.heap.size _<|(RN.of hd).one1 g1) (A9 _) Ac fun v2 w2 ag b1 ak=>?_)
  have aq:=ag.size
  have a3:=ap.trans ag
  have a4:=aa.ext ag
  refine Ay 122 [] [] [.agg #[zI ipT,vtc,vtg,vtx],v2] Z Z XH Ac (JL _ a (ipT) vtc vtg vtx (T) (oT) v2 ([d]) _hipT (htcT.ext (Aq Ap) a3) (htgT.ext (Aq As) a3) (htoT.ext g1 a3) (RN.ofOne ak ((RN.of hd).ext g1 a3) fun b hb=>by cases hb) (Vi ak) oM hR (by intro k hk;match k,hk with|0,_=>exact hdd)) ?_
  rintro e3 w3 ⟨rfl,ab⟩
  refine⟨_,rfl,ab,?_⟩
  have ar:=ab.size
  have al:=a3.trans ab
  have a5:=a4.ext ab
  refine Ae 1 Z<|fQ [0,0] Z<|Af 1 Z ?_
  have au:¬(0≠((0:Nat):Int)):=(fun h9=>h9 Z)
  refine Be false Z Z (A8 au) Ac<|Aj<|Ak Z<|A4<|A0<|B7 _ [1,0,3,3,0,0,0,0,0] mixed (by kernel_rfl)<|AC (p:=zP w.heap.size) (.inl Z) [zI ipT,vtc,vtg,vtx] BE Z (fun b4 af=>LD.of_box<|BX.ext (w:=w3.drew) a5 af) Z Ac<|Af 1 Z<|Ay 124 [] [] [vd] Z Z bY Ac (LJ _ _ _ (hd.ext g1 al.drew) oM) ?_
  rintro e5 w5 ⟨a6,rfl,a7,a0⟩
  refine⟨_,rfl,a7,?_⟩
  replace a7:=a7.of_drew
  have av:=a7.size
  have ac:=al.trans a7
  replace a0:=a0.low (B':=w3.heap.size)<|A9 _
  refine Ay 123 [] [] [.agg #[zI ipT,vtc,vtg,vtx],a6,zI ((0:Nat):Int)] Z Z XI Ac (ED _ (ipT) vtc vtg vtx (T) (oT) a6 (Cu d) ((0:Nat):Int) _hipT (htcT.ext (Aq Ap) ac) (htgT.ext (Aq As) ac) (htoT.ext g1 ac) (RN.of_fr2 a0 fun b hb=>absurd hb z2) a0.cap oM oM (by exact Dh hdd.2) (by intro k hk;rw[DE,hdd.1];exact hR.k.form k hk) oM) ?_
  rintro e6 w6 ⟨v6,c6,rfl,ah,a8,ai⟩
  refine⟨_,rfl,ah,?_⟩
  have aw:=ah.size
  have ad:=ac.trans ah
  have ax:c6=0∨c6=6:=by unfold PM at a8;omega
  refine Af 1 Z<|AO (vs:=[v6,zI c6]) v6 Z Z Ac<|AO (vs:=[v6,zI c6]) (zI c6) Z Z Ac<|Ae 2 Z<|A0<|fQ [0,0] Z<|Af 1 Z ?_
  by_cases am:c6≠((0:Nat):Int)
  ·
    exact Be true Z Z (A7 am) Ac<|Aj<|Ah Z<|fQ [0,0,0] Z<|Ae 3 Z<|A3<|At<|Al [4,5] Z (.tuple #[zN,zI c6]) Z ⟨zN,Y5,ad,(by first|(rw[Lz hrx];exact Jj _ _ _)|(rw[XA (by rw[← NE ‹PM _ _ _ _›];omega)];exact Jj _ _ _))⟩
  refine Be false Z Z (A8 am) Ac<|Aj<|Ak Z<|A4<|fQ [0,3,0,0] Z ?_
  have hcz:c6=0:=by omega
  have hrx:DC d T.code=0:=by rw[← NE a8];exact hcz
  obtain⟨a1,hrvc⟩:=ai hcz
  replace a1:RN [] (Bl (Bl rI)) w6.heap v6 (AZ 1 (Cu d) T.code):=a1
  refine Af 1 Z<|Ay 67 [] [] [v6] Z Z bO Ac (IC _ _ _ (a1).rd (by rw[Bp];omega) (by intro k hk;have h9:=((MZ (Dh hdd.2) (by intro q hq;rw[DE,hdd.1];exact hR.k.form q hq):CG 1 _) k hk).1;omega)) ?_
  rintro e8 w8 ⟨a9,rfl,ae,a2⟩
  refine⟨_,rfl,ae,?_⟩
  have ay:=ae.size
  have az:=ad.trans ae
  have b2:=a1.ext g2 ae
  exact Ae 2 Z<|A3<|Al [4,5] Z (.tuple #[a9,zI ((0:Nat):Int)]) Z ⟨a9,Y5,az,(by first|(rw[Lz hrx];exact(a2.up o1).low ad.size)|(rw[XA (by rw[← NE ‹PM _ _ _ _›];omega)];exact(a2.up o1).low ad.size))⟩
theorem I2 (w:World)(vl:Value)(L:Sr)(vp:Value)(ps:Sr)(hL:Rd (Bl rI) w.heap vl L)(hps:Rd (Bl rI) w.heap vp ps)(hp:∀k,k<ps.length→0≤ps.getD k 0∧ps.getD k 0<(L.length:Int))(hpl:ps.length≤1000000) :
    Calls Tryz.prog 63 #[vl,vp] w (fun e w'=>∃v0:Value,e=.returned (v0)∧AD w w'∧Fr (BD rI 2) w.heap.size w'.heap.size w'.heap v0 (aZ L ps)):=by
  refine Aw [vl,vp] 24 Tryz.func63 Z Z sM ?_
  have a8:AD w w:=AD.refl w
  have ao:=hL.lenle
  have ap:=hps.lenle
  refine fR Z<|fQ [3,0] Z (Dt (rI) AN Bu BL Ac fun v1 w1 a3 af a9=>?_)
  have a4:=a3.size
  have aa:=a8.trans a3
  refine Ae 1 Z<|A0<|fQ [0,0,0] Z<|Af 1 Z<|AU (v:=vp) Bu Z hps.isSl Ac<|Ae 1 Z<|A5 ?_
  refine B8 (S:=Nat×Value) (fun⟨k,vo⟩=>([(5,vo),(11,zI (k:Int)),(0,vl),(9,vp),(10,zI (ps.length:Int))])) (fun⟨k,vo⟩ W=>AD w W∧Fr (BD rI 2) w.heap.size W.heap.size W.heap vo ((ps.take k).map fun q=>L.getD q.toNat 0)∧k≤ps.length) (fun⟨k,vo⟩=>ps.length-k) (0,v1) ⟨rfl,rfl,rfl,rfl,rfl,trivial⟩ ⟨aa,a9.up o1,sD⟩ ?_
  clear a8 a9 af a3 a4 aa
  rintro⟨k,vo⟩ ρ2 w2 ⟨a2,a1,ab⟩
  have ag:w.heap.size≤w2.heap.size:=a2.size
  refine fQ [0] Z ?_
  by_cases ac:(k:Int)<(ps.length:Int)
  ·
    refine AJ true Z Z (A7 ac) Ac<|Aj<|A0<|Ah Z<|A4<|A0<|A5<|fQ [0,2,0] Z ?_
    have hpk:=hp k oM
    refine AH (v:=vp) k Bu BL Z Z hps.isSl Z sD Ac ?_
    refine Ai (p:=AE vp k 1) (.inr Z) (zI<|ps.getD k 0) AG Z (Bk a2 (hps.getI sD).1) Ac<|Ae 1 Z<|Ad _ [0,0,0,0,2,3,4,0] Z ?_
    have ah:=hp k oM
    refine Af 3 Z<|AH (v:=vl) ((ps.getD k 0).toNat) Bu BL Z Z hL.isSl oM sD Ac ?_
    refine Ai (p:=AE vl ((ps.getD k 0).toNat) 1) (.inr Z) (zI<|L.getD ((ps.getD k 0).toNat) 0) AG Z (Bk a2 (hL.getI sD).1) Ac ?_
    refine BQ (u:=zI<|L.getD ((ps.getD k 0).toNat) 0) (B:=w2.heap.size) AN Bu BL Z Z (Jl w2.heap.size w2.heap.size _ _ (hL.getI sD).2) (A9 _) Ac fun v4 w4 a5 am ad=>?_
    have ai:=a5.size
    have a6:=a2.trans a5
    have a0:=a1.ext (o1) a5
    refine FH (v:=vo) (a:=v4) Bu BL Z Z Z a0 a6.size ad.rd1 sD (by unfold maxLen;first|omega|assumption|(simp only[zb,z9,z4,z6,z5];omega)|(simp[zb,z9,z4,z6,z5];done)|(simp[zb,z9,z4,z6,z5];omega)) Ac fun v5 w5 F5 a7 ae aj=>?_
    have ak:AD w w5:=a7.below a6 (fun c hc=>Aa (A9 _) (ae c hc).1) a6.size
    have al:w4.heap.size≤w5.heap.size:=a7.size
    have an:=ad.chg (o1) a7 fun c hc=>zH<|ae c hc
    refine Ae 1 Z<|Ad _ [0,0] Z<|AS ((k+1:Nat):Int) Z Z (Bg oM sD) Ac<|Ae 1 Z ?_
    exact⟨(k+1,v5),_,rfl,zR,⟨ak,(by rw[Em 0 oM];exact aj.up o1),sD⟩,zD⟩
  exact AJ false Z Z (A8 ac) Ac<|Aj<|A0<|Ak Z<|A6<|AA<|AA<|Ax<|fQ [0,0] Z<|Ae 2 Z<|A3<|Al [4] Z vo Z ⟨vo,rfl,a2,(by have h:=a1.up o1;rwa [za oM]at h)⟩
theorem I3 (w:World)(a:Sr)(ipT:Int)(vtc vtg vtx:Value)(T:Tp)(oT:Sr)(vd:Value)(d:Sr)(_hipT:Bd ipT)(htcT:RN [] (CK 4 Gs) w.heap vtc T.code)(htgT:RN [] (CK 2 FV) w.heap vtg T.grd)(htoT:RN [] (Bl rI) w.heap vtx oT)(hd:Rd (Bl rI) w.heap vd d)(hip:ipT=(a.length:Int))(hR:Iz a T oT)(hdd:d.length=a.length∧Bj d=true) :
    Calls Tryz.prog 14 #[(.agg #[(zI ipT),vtc,vtg,vtx]),vd] w (fun e w'=>∃v0:Value,e=.returned (.tuple #[v0,zI (DC d T.code)])∧AD w w'∧Fr (BD rI 2) w.heap.size w'.heap.size w'.heap v0 (UF d T.code oT)):=by
  refine Aw [.agg #[zI ipT,vtc,vtg,vtx],vd] 21 Tryz.func14 Z Z sM ?_
  have ac:AD w w:=AD.refl w
  have hl_vtx:=htoT.lenL
  unfold maxLen at hl_vtx
  have aj:=hd.lenle
  have hK:=hR.k
  have hni:=hK.nb
  have hcl:=hK.cl
  have ak:=hK.gl
  have hol:=hK.ol
  have hpos:=hK.pos
  refine fQ [3,0,0] Z (BC (cs:=#[zI ipT,vtc,vtg,vtx]) Z Ac fun w1 aa ai a7=>?_)
  have ad:=aa.size
  have a2:=ac.trans aa
  replace a7:BX w1.heap w.heap.size [zI ipT,vtc,vtg,vtx]:=a7
  refine Ae 2 Z<|fQ [2,0,3,0,0,0,0,0] Z<|AC (p:=zP w.heap.size) (.inr Z) [zI ipT,vtc,vtg,vtx] BE Z (fun al ae=>LD.of_box<|BX.ext (w:=w1) a7 ae) Z Ac<|Af 1 Z<|Ay 62 [] [] [.agg #[zI ipT,vtc,vtg,vtx],vd] Z Z bN Ac (FT _ a (ipT) vtc vtg vtx (T) (oT) _ _ _hipT (htcT.ext (Aq Ap) a2) (htgT.ext (Aq As) a2) (htoT.ext g1 a2) (hd.ext g1 a2) oM hR hdd) ?_
  rintro e2 w2 ⟨a0,rfl,a8,a3⟩
  refine⟨_,rfl,a8,?_⟩
  have af:=a8.size
  have a4:=a2.trans a8
  have a5:=a7.ext a8
  refine Af 1 Z<|AO (vs:=[a0,zI<|DC d T.code]) a0 Z Z Ac<|AO (vs:=[a0,zI<|DC d T.code]) (zI<|DC d T.code) Z Z Ac<|Ae 2 Z<|A0<|fQ [0,0] Z<|Af 1 Z ?_
  by_cases ab:DC d T.code≠((0:Nat):Int)
  ·
    exact Be true Z Z (A7 ab) Ac<|Aj<|Ah Z<|fQ [0,0,0] Z<|Ae 3 Z<|A3<|At<|Al [4,5] Z (.tuple #[zN,zI<|DC d T.code]) Z ⟨zN,(by first|rfl|(rw[show DC d T.code=0 by omega];rfl)),a4,(by first|(rw[P3 oM];exact Jj _ _ _)|(rw[XB oM];exact Jj _ _ _))⟩
  refine Be false Z Z (A8 ab) Ac<|Aj<|Ak Z<|A4<|fQ [0,0,2,3,0,0] Z<|Af 1 Z<|Ao (p:=zP w.heap.size) 3 Es Z Z Ac<|Ai (p:=Au (zP w.heap.size) 3) (.inr Z) vtx BN Z (a5.ldp (i:=3) sM) Ac<|Ay 63 [] [] [a0,vtx] Z Z fy Ac (I2 _ _ _ _ _ a3.rd1 (htoT.ext g1 a4).rd (by intro q hq;rw[Rc oM];exact hR.k.out q hq) oM) ?_
  rintro e4 w4 ⟨a6,rfl,a9,a1⟩
  refine⟨_,rfl,a9,?_⟩
  have ag:=a9.size
  have ah:=a4.trans a9
  exact Ae 2 Z<|A3<|Al [4,5] Z (.tuple #[a6,zI ((0:Nat):Int)]) Z ⟨a6,(by first|rfl|(rw[show DC d T.code=0 by omega];rfl)),ah,(by first|(rw[P3 oM];exact(a1.up o1).low a4.size)|(rw[XB oM];exact(a1.up o1).low a4.size))⟩
end
section
def eL (P:Program):List Field→Nat→Bool
 | [],_=>true
 | f :: fs,i=>(f.name != "_") && (f.offset == i) && (match P.underlying f.type with | some (.int .i64)=>true | _=>false) && eL P fs (i + 1)
def ZO (P:Program)(t:TypeId)(n:Nat):Bool :=
 (match P.underlying t with|some (.struct _)=>true|_=>false) && !P.stoodInHeld t && !P.eqGuardType P.depth t && eL P (P.fieldsOf t).toList 0 && ((P.fieldsOf t).size == n)
theorem Zz {P:Program}{t:TypeId}{n:Nat}(h:ZO P t n=true):P.underlying t=some (.struct (P.fieldsOf t)):=by
 unfold ZO at h
 simp only[z7]at h
 have h1:=h.1.1.1.1
 unfold Program.fieldsOf
 split at h1
 ·rename_i fs hfs;rw[hfs]
 ·cases h1
theorem JM {P:Program}{e:TypeId}{xs:Array Value}{off:Nat}{v:Value}{w:World}(he:P.underlying e=some (.int .i64))(hx:xs[off]? = some v):(part e xs off).run P w=.ok v w:=by
 unfold part isAgg
 simp[run_underlying he,hx]
theorem RC {P:Program} {w:World} {d:Nat} (us vs:List Int) (hl:us.length = vs.length):∀ (fs:List Field) (i:Nat),eL P fs i = true→i + fs.length = us.length →
  (Op.eqFields (d + 1) ((us.map (Value.int .i64)).toArray) ((vs.map (Value.int .i64)).toArray) fs).run P w = .ok (decide (us.drop i = vs.drop i)) w
 | [],i,_,h=>by
  have h':i = us.length:=by simpa using h
  rw [List.drop_eq_nil_of_le (by omega),List.drop_eq_nil_of_le (by omega)]
  rfl
 | f :: fs,i,hf,h=>by
  unfold eL at hf
  simp only [z7] at hf
  obtain ⟨⟨⟨h1,h2⟩,h3⟩,h4⟩:=hf
  have h2:f.offset = i:=by simpa using h2
  have h1:f.name≠"_":=by simpa using h1
  have h3:P.underlying f.type = some (.int .i64):=by
   split at h3
   ·assumption
   ·cases h3
  have hlt:i < us.length:=by simp only [z9] at h; omega
  have hlv:i < vs.length:=by omega
  have e1:((us.map (Value.int .i64)).toArray)[i]? = some (.int .i64 us[i]):=by simp [hlt]
  have e2:((vs.map (Value.int .i64)).toArray)[i]? = some (.int .i64 vs[i]):=by simp [hlv]
  have ih:=RC (P:=P) (w:=w) (d:=d) us vs hl fs (i + 1) h4 (by simp only [z9] at h; omega)
  simp only [Op.eqFields,if_pos h1,Sem.run_bind,h2,JM h3 e1,JM h3 e2,Result.andThen_ok,run_equalIn_int w d f.type .i64 .i64 us[i] vs[i] h3]
  rw [List.drop_eq_getElem_cons hlt,List.drop_eq_getElem_cons hlv]
  by_cases hq:us[i] = vs[i]
  ·simp only [hq,beq_self_eq_true,Bool.not_true,Bool.false_eq_true,if_false,ih]
   congr 1
   exact decide_eq_decide.2 ⟨fun h=>by rw [h],fun h=>(List.cons.inj h).2⟩
  ·have hb:(us[i] == vs[i]) = false:=by simpa using hq
   simp only [hb,Bool.not_false,if_true,Sem.run_pure]
   congr 1
   exact (A8 (fun h=>hq (List.cons.inj h).1)).symm
theorem VU {P:Program}{t:TypeId}{us vs:List Int}{w:World}(h:ZO P t us.length=true)(hl:us.length=vs.length) :
  (Op.equalIn 10000 t (.agg (us.map (Value.int .i64)).toArray) (.agg (vs.map (Value.int .i64)).toArray)).run P w=.ok (decide (us=vs)) w:=by
 have hs:=Zz h
 unfold ZO at h
 simp only[z7]at h
 obtain⟨⟨⟨⟨_,h2⟩,h3⟩,h4⟩,h5⟩:=h
 have hfl:(P.fieldsOf t).size=us.length:=by simpa using h5
 rw[run_equalIn_struct w 9999 t _ _ hs (by simpa using h2),RC us vs hl _ 0 h4 (by simpa using hfl)]
 rfl
section ops
variable {P:Program} {ops:Array Oper} {w0:World} {Q:Act→World→Prop} {os:List Oper} {ks:List Nat} {N:Nat} {ρ:Nat→Value} {w:World}
 {d:Nat} {ty:TypeId} {pos:String} {aft:Array Edge} {g:Option (Nat×Bool)} {xt yt:TypeId} {x y:Operand} {us vs:List Int} {cx cy:List Value}
theorem ZA (c:Bool)(ht:ZO P xt us.length=true)(hl:us.length=vs.length)(hx:Br N ρ x=.agg cx.toArray)(hy:Br N ρ y=.agg cy.toArray)(hu1:cx=us.map (Value.int .i64))(hv1:cy=vs.map (Value.int .i64))(hc:(!decide (us=vs))=c)(hu:Up ops N ρ ⟨some d,.binOp .neq xt x y yt,ty,pos,aft,g⟩)
  (h:LW P ops w0 Q os ks (mk N (CI ρ d (.bool c))) w):LW P ops w0 Q (⟨some d,.binOp .neq xt x y yt,ty,pos,aft,g⟩::os) (0::ks) (mk N ρ) w :=
 Cr (by decide) rfl hu _ (fun w' _=>by
  subst hu1 hv1
  have hg:P.eqGuardType P.depth xt=false:=by
   unfold ZO at ht
   simp only[z7]at ht
   simpa using ht.1.1.2
  simp only[execOp,hx,hy,Sem.run_bind,run_eqGuard_agg w' _ xt x y _ _ hg,Result.andThen_ok,run_neq_struct,VU ht hl,hc,Sem.run_pure]) h
end ops
end
section
def gC (P:Program):List Field→Bool
 | [f,g]=>(f.name != "_") && (g.name != "_") && (f.offset == 0) && (g.offset == 1) && (match P.underlying f.type with | some (.int .i64)=>true | _=>false) && (match P.underlying g.type with | some .bool=>true | _=>false)
 | _=>false
def Pd (P:Program)(t:TypeId):Bool:=(match P.underlying t with|some (.struct _)=>true|_=>false) && !P.stoodInHeld t && !P.eqGuardType P.depth t && gC P (P.fieldsOf t).toList
theorem FD {P:Program}{e:TypeId}{xs:Array Value}{off:Nat}{v:Value}{w:World}(he:P.underlying e=some .bool)(hx:xs[off]? = some v):(part e xs off).run P w=.ok v w:=by
 unfold part isAgg
 simp[run_underlying he,hx]
theorem VV {P:Program}{t:TypeId}(h:Pd P t=true):P.underlying t=some (.struct (P.fieldsOf t)):=by
 unfold Pd at h
 simp only[z7]at h
 have h1:=h.1.1.1
 unfold Program.fieldsOf
 split at h1
 ·rename_i fs hfs;rw[hfs]
 ·cases h1
theorem Bt.eq_iff {a b:Bt}:a=b↔a.reg=b.reg∧a.z=b.z:=by
 cases a;cases b;simp
theorem RD {P:Program} {t:TypeId} {a b:Bt} {w:World} (h:Pd P t = true):∃ c:Bool,(Op.equalIn 10000 t (.agg (QX a).toArray) (.agg (QX b).toArray)).run P w = .ok c w∧(c = true↔a = b):=by
 have hs:=VV h
 unfold Pd at h
 simp only [z7] at h
 obtain ⟨⟨⟨_,h2⟩,h3⟩,h4⟩:=h
 rw [run_equalIn_struct w 9999 t _ _ hs (by simpa using h2)]
 generalize (P.fieldsOf t).toList = fs at h4
 match fs,h4 with
 | [f,g],h4 =>
  unfold gC at h4
  simp only [z7] at h4
  obtain ⟨⟨⟨⟨⟨q1,q2⟩,q3⟩,q4⟩,q5⟩,q6⟩:=h4
  have q1:f.name≠"_":=by simpa using q1
  have q2:g.name≠"_":=by simpa using q2
  have q3:f.offset = 0:=by simpa using q3
  have q4:g.offset = 1:=by simpa using q4
  have q5:P.underlying f.type = some (.int .i64):=by
   split at q5
   ·assumption
   ·cases q5
  have q6:P.underlying g.type = some .bool:=by
   split at q6
   ·assumption
   ·cases q6
  have e1:((QX a).toArray)[0]? = some (.int .i64 a.reg):=rfl
  have e2:((QX b).toArray)[0]? = some (.int .i64 b.reg):=rfl
  have e3:((QX a).toArray)[1]? = some (.bool a.z):=rfl
  have e4:((QX b).toArray)[1]? = some (.bool b.z):=rfl
  refine ⟨(a.reg == b.reg) && (a.z == b.z),?_,by rw [z7,beq_iff_eq,beq_iff_eq,Bt.eq_iff]⟩
  simp only [Op.eqFields,if_pos q1,if_pos q2,Sem.run_bind,q3,q4,JM q5 e1,JM q5 e2,FD q6 e3,FD q6 e4,Result.andThen_ok,run_equalIn_int w _ f.type .i64 .i64 a.reg b.reg q5,run_equalIn_bool' w _ g.type a.z b.z q6]
  by_cases hq:a.reg = b.reg
  ·have hb:(a.reg == b.reg) = true:=by simpa using hq
   rw [hb]
   by_cases hz:a.z = b.z
   ·have hb2:(a.z == b.z) = true:=by simpa using hz
    simp only [Bool.not_true,Bool.false_eq_true,if_false,Sem.run_bind,FD q6 e3,FD q6 e4,Result.andThen_ok,run_equalIn_bool' w _ g.type a.z b.z q6,hb2,Sem.run_pure,Bool.and_self]
   ·have hb2:(a.z == b.z) = false:=by simpa using hz
    simp only [Bool.not_true,Bool.false_eq_true,if_false,Sem.run_bind,FD q6 e3,FD q6 e4,Result.andThen_ok,run_equalIn_bool' w _ g.type a.z b.z q6,hb2,Bool.not_false,if_true,Sem.run_pure,Bool.and_false]
  ·have hb:(a.reg == b.reg) = false:=by simpa using hq
   rw [hb]; rfl
section ops
variable {P:Program} {ops:Array Oper} {w0:World} {Q:Act→World→Prop} {os:List Oper} {ks:List Nat} {N:Nat} {ρ:Nat→Value} {w:World}
 {d:Nat} {ty:TypeId} {pos:String} {aft:Array Edge} {g:Option (Nat×Bool)} {xt yt:TypeId} {x y:Operand} {a b:Bt} {cx cy:List Value}
theorem Us (c:Bool)(ht:Pd P xt=true)(hx:Br N ρ x=.agg cx.toArray)(hy:Br N ρ y=.agg cy.toArray)(hu1:cx=QX a)(hv1:cy=QX b)(hc:c=true↔a=b)(hu:Up ops N ρ ⟨some d,.binOp .eql xt x y yt,ty,pos,aft,g⟩)
  (h:LW P ops w0 Q os ks (mk N (CI ρ d (.bool c))) w):LW P ops w0 Q (⟨some d,.binOp .eql xt x y yt,ty,pos,aft,g⟩::os) (0::ks) (mk N ρ) w :=
 Cr (by decide) rfl hu _ (fun w' _=>by
  subst hu1 hv1
  have hg:P.eqGuardType P.depth xt=false:=by
   unfold Pd at ht
   simp only[z7]at ht
   simpa using ht.1.2
  obtain⟨c',r1,r2⟩:=RD (P:=P) (w:=w') (a:=a) (b:=b) ht
  have:c'=c:=by rw[Bool.eq_iff_iff,r2,hc]
  subst this
  simp only[execOp,hx,hy,Sem.run_bind,run_eqGuard_agg w' _ xt x y _ _ hg,Result.andThen_ok,run_eql_struct,r1,Sem.run_pure]) h
theorem ZB (c:Bool)(ht:Pd P xt=true)(hx:Br N ρ x=.agg cx.toArray)(hy:Br N ρ y=.agg cy.toArray)(hu1:cx=QX a)(hv1:cy=QX b)(hc:c=true↔a≠b)(hu:Up ops N ρ ⟨some d,.binOp .neq xt x y yt,ty,pos,aft,g⟩)
  (h:LW P ops w0 Q os ks (mk N (CI ρ d (.bool c))) w):LW P ops w0 Q (⟨some d,.binOp .neq xt x y yt,ty,pos,aft,g⟩::os) (0::ks) (mk N ρ) w :=
 Cr (by decide) rfl hu _ (fun w' _=>by
  subst hu1 hv1
  have hg:P.eqGuardType P.depth xt=false:=by
   unfold Pd at ht
   simp only[z7]at ht
   simpa using ht.1.2
  obtain⟨c',r1,r2⟩:=RD (P:=P) (w:=w') (a:=a) (b:=b) ht
  have:(!c')=c:=by
   cases c' <;> cases c <;> simp_all
  subst this
  simp only[execOp,hx,hy,Sem.run_bind,run_eqGuard_agg w' _ xt x y _ _ hg,Result.andThen_ok,run_neq_struct,r1,Sem.run_pure]) h
end ops
noncomputable def Pe (g:Bt)(l:List Bt):Bool:=@decide (g∈l) (Classical.propDecidable _)
theorem M3 {g:Bt}{l:List Bt}:Pe g l=true↔g∈l:=by unfold Pe;exact @decide_eq_true_iff _ (Classical.propDecidable _)
theorem VW {g:Bt}{l:List Bt}(h:(!Pe g l)=false):g∈l:=M3.1 (by simpa using h)
theorem VX {g:Bt}{l:List Bt}(h:(!Pe g l)=true):g∉l:=fun hm=>by rw[M3.2 hm]at h;cases h
theorem VY {g:Bt}{l:List Bt}{x:Int}(h:0≤x↔g∈l):decide (((0:Nat):Int)≤x)=Pe g l:=by
 rw[Bool.eq_iff_iff,M3,decide_eq_true_iff];exact h
theorem VZ {g:Bt}{l:List Bt}{k:Nat}(h:∀j,j<k→l.getD j Bt.zero≠g)(hk:l.length≤k):g∉l:=fun hm=>by
 obtain⟨j,hj,e⟩:=List.mem_iff_getElem.1 hm
 exact h j zO (by rw[← e];simp[hj])
theorem X0 {g:Bt}{l:List Bt}{k:Nat}(h:∀j,j<k→l.getD j Bt.zero≠g)(hk:¬g=l.getD k Bt.zero):∀j,j<k+1→l.getD j Bt.zero≠g:=fun j hj e=>by
 rcases Nat.lt_or_ge j k with h9|h9
 ·exact h j h9 e
 ·have h8:j=k:=by omega
  subst h8;exact hk e.symm
theorem Ut {g:Bt}{l:List Bt}{k:Nat}(hk:k<l.length)(h:l.getD k Bt.zero=g):g∈l:=by
 rw[← h,show l.getD k Bt.zero=l[k]from by simp[hk]];exact List.getElem_mem hk
end
section
section
variable {c:Am} {to:List Int} {ni k:Nat}
theorem ZC (h:((3:Nat):Int)≤c.op)(h2:(decide (((3:Nat):Int)≤c.op) && decide (c.op≤((6:Nat):Int)))=true):Ending.returned (.agg #[.int .i64 c.op,.int .i64 (to.getD c.a.toNat 0),.int .i64 (to.getD c.b.toNat 0),.int .i64 c.num])=Ending.returned (.agg #[.int .i64 (AV to c).op,.int .i64 (AV to c).a,.int .i64 (AV to c).b,.int .i64 (AV to c).num]):=by
 simp only[z7,decide_eq_true_eq]at h2
 rw[Ep,JD,DI zO,FN (by omega)]
theorem ZD (h:((3:Nat):Int)≤c.op)(h2:(decide (((3:Nat):Int)≤c.op) && decide (c.op≤((6:Nat):Int)))=false):Ending.returned (.agg #[.int .i64 c.op,.int .i64 (to.getD c.a.toNat 0),.int .i64 c.b,.int .i64 c.num])=Ending.returned (.agg #[.int .i64 (AV to c).op,.int .i64 (AV to c).a,.int .i64 (AV to c).b,.int .i64 (AV to c).num]):=by
 simp only[Bool.and_eq_false_iff,decide_eq_false_iff_not]at h2
 rw[Ep,JD,DI zO,show(AV to c).b=c.b from if_neg (by omega)]
theorem ZE (h:¬((3:Nat):Int)≤c.op):Ending.returned (.agg #[.int .i64 c.op,.int .i64 c.a,.int .i64 c.b,.int .i64 c.num])=Ending.returned (.agg #[.int .i64 (AV to c).op,.int .i64 (AV to c).a,.int .i64 (AV to c).b,.int .i64 (AV to c).num]):=by
 rw[Ep,JD,show(AV to c).b=c.b from if_neg zO,show(AV to c).a=c.a from if_neg (by omega)]
theorem Uu (h2:(decide (((3:Nat):Int)≤c.op) && decide (c.op≤((6:Nat):Int)))=true):3≤c.op∧c.op≤6:=by
 simp only[z7,decide_eq_true_eq]at h2
 omega
theorem L2 (h:GE c)(ht:∀j,Bd (to.getD j 0)):GE (AV to c):=by
 refine⟨h.1,?_,?_,h.2.2.2⟩
 ·show Bd (if _ then _ else _)
  split
  ·exact ht _
  ·exact h.2.1
 ·show Bd (if _ then _ else _)
  split
  ·exact ht _
  ·exact h.2.2.1
theorem ZF {H:Array Obj}{v:Value}{xs:List Int}(h:Rd (Bl rI) H v xs):∀j,Bd (xs.getD j 0):=fun j=>by
 by_cases hj:j<xs.length
 ·exact (h.getI hj).2
 ·rw[List.getD_eq_getElem?_getD,List.getElem?_eq_none (by omega)];exact⟨by decide,by decide⟩
end
theorem M4 {F:List Am}{c:Am}(h:¬((3:Nat):Int)≤c.op):Kq F c=c:=if_neg fun hh=>h hh.1.1
theorem M5 {F:List Am}{c:Am}(h:¬(F.getD c.a.toNat Am.zero).op=((2:Nat):Int)):Kq F c=c:=if_neg fun hh=>h hh.1.2.1
theorem M6 {F:List Am}{c:Am}(h7:¬c.op=((7:Nat):Int))(h:¬(F.getD c.b.toNat Am.zero).op=((2:Nat):Int)):Kq F c=c:=if_neg fun hh=>hh.1.2.2.elim h7 h
theorem M7 {F:List Am}{c:Am}(h:(!decide (Cm c.op (F.getD c.b.toNat Am.zero).num))=false):Kq F c=c:=if_neg fun hh=>by
 rw[A8 hh.2]at h;cases h
theorem M8 {F:List Am}{c:Am}(h3:((3:Nat):Int)≤c.op)(ha:(F.getD c.a.toNat Am.zero).op=((2:Nat):Int))(hb:c.op=7∨(F.getD c.b.toNat Am.zero).op=2)(h:(!decide (Cm c.op (F.getD c.b.toNat Am.zero).num))=true) :
  Kq F c=⟨((2:Nat):Int),0,0,if Cm c.op (F.getD c.b.toNat Am.zero).num then 0 else CX c.op (F.getD c.a.toNat Am.zero).num (F.getD c.b.toNat Am.zero).num⟩:=by
 have hz:¬Cm c.op (F.getD c.b.toNat Am.zero).num:=fun hh=>by rw[A7 hh]at h;cases h
 rw[if_neg hz]
 exact if_pos ⟨⟨h3,ha,hb⟩,hz⟩
theorem RE {cs:List Am}{mk:List Bool}{k:Nat}(h:mk.getD k false=false):DR cs mk (k+1)=DR cs mk k:=XC (by rw[h];decide)
theorem Pf {ni:Nat}{T:Tp}{o:List Int}(h:ND ni T o):∀k,k<(o++T.grd.map (·.reg)).length→0≤(o++T.grd.map (·.reg)).getD k 0∧(o++T.grd.map (·.reg)).getD k 0<((T.code.length:Nat):Int):=fun k hk=>by
 have hm:=Mm 0 hk
 rcases zi.1 hm with hm|hm
 ·obtain⟨j,hj,e⟩:=NL 0 hm
  rw[← e];exact h.out j hj
 ·obtain⟨g,hg,e⟩:=List.mem_map.1 hm
  obtain⟨j,hj,e2⟩:=NL Bt.zero hg
  rw[← e,← e2];exact h.gd j hj
theorem Uv {ni k:Nat}{c:Am}(h:C3 ni k c):3≤c.op→(0≤c.a∧c.a<((k:Nat):Int))∧(0≤c.b∧c.b<((k:Nat):Int)):=fun h3=>by
 by_cases q:c.op≤6
 ·exact h.i2 ⟨h3,q⟩
 ·have h0:=h.i0
  have ha:=h.i7 zO
  have hb:c.b=0:=by
   rcases h with h|h|h|h
   ·omega
   ·omega
   ·omega
   ·exact h.2.2.1
  exact⟨ha,zO,zO⟩
theorem X1 {ni:Nat}{T:Tp}{o:List Int}(h:ND ni T o):T.grd.map (G7 (Og T.code.length))=T.grd:=by
 refine Eq.trans (List.map_congr_left fun g hg=>?_)<|List.map_id T.grd
 obtain⟨k,hk,rfl⟩:=NL Bt.zero hg
 have:=h.gd k hk
 generalize T.grd.getD k Bt.zero=g at this
 show(⟨(Og T.code.length).getD g.reg.toNat 0,g.z⟩:Bt)=g
 rw[K7 (by omega)]
 cases g
 simp only at this ⊢
 congr 1
 omega
theorem X2 {ni:Nat}{T:Tp}{o:List Int}(h:ND ni T o):o.map (HP (Og T.code.length))=o:=by
 refine Eq.trans (List.map_congr_left fun r hr=>?_)<|List.map_id o
 obtain⟨k,hk,rfl⟩:=NL 0 hr
 have:=h.out k hk
 show(Og T.code.length).getD (o.getD k 0).toNat 0=o.getD k 0
 rw[K7 (by omega)]
 omega
end
section
theorem BB {ni k:Nat}{cs:List Am}(h:∀j,j<cs.length→C3 ni j (cs.getD j Am.zero)):∀j,j<(cs.take k).length→C3 ni j ((cs.take k).getD j Am.zero):=fun j hj=>by
 rw[List.length_take]at hj
 have e:(cs.take k).getD j Am.zero=cs.getD j Am.zero:=by
  rw[List.getD_eq_getElem?_getD,List.getElem?_take,if_pos zO,← List.getD_eq_getElem?_getD]
 rw[e];exact h j zO
def Pg (B U p q:Nat):List Nat:=(List.range U).filter fun c=>decide (B≤c∧(c<p∨q≤c))
theorem De {B U p q c:Nat}:c∈Pg B U p q↔c<U∧B≤c∧(c<p∨q≤c):=by
 unfold Pg;rw[List.mem_filter,List.mem_range,decide_eq_true_iff]
def dV:Bs Unit:=fun _ v _ F=>v=.bool false∧F=[]
theorem AI:BZ dV where
 cells:=by rintro H v x F ⟨rfl,_⟩;rfl
 one:=by rintro H v x F ⟨rfl,_⟩;rfl
 lt:=by rintro H v x F ⟨_,rfl⟩ b hb;cases hb
 stable:=by rintro H H' v x F ⟨h1,h2⟩ _;exact⟨h1,h2⟩
def M9 {γ:Type}(E3:Bs γ)(vt vm:Value)(p q:Nat)(e e':TypeId):Bs (List Am×List Int×γ):=fun H v x F =>
 ∃F1 F2 F3,F=F1++(F2++F3)∧DB 4 Gs e H v x.1 F1∧BD rI e' H vt x.2.1 F2∧E3 H vm x.2.2 F3∧∀b∈F,b<p∨q≤b
section
variable {γ:Type} {E3:Bs γ} {vt vm:Value} {p q:Nat} {e e':TypeId}
theorem Az (h3:BZ E3):BZ (M9 E3 vt vm p q e e') where
 cells:=fun⟨_,_,_,_,h,_⟩=>(An Ap).cells h
 one:=fun⟨_,_,_,_,h,_⟩=>(An Ap).one h
 lt:=by
  rintro H v x F ⟨F1,F2,F3,rfl,h1,h2,h4,h5⟩ b hb
  rcases zi.1 hb with hb|hb
  ·exact (An Ap).lt h1 b hb
  ·rcases zi.1 hb with hb|hb
   ·exact (Bc AN).lt h2 b hb
   ·exact h3.lt h4 b hb
 stable:=by
  rintro H H' v x F ⟨F1,F2,F3,rfl,h1,h2,h4,h5⟩ hb
  exact⟨F1,F2,F3,rfl,(An Ap).stable h1 fun b h=>hb b (by simp[h]),(Bc AN).stable h2 fun b h=>hb b (by simp[h]),h3.stable h4 fun b h=>hb b (by simp[h]),h5⟩
variable {B U B1 U1 B2 U2 B3 U3:Nat} {H:Array Obj} {v:Value} {cs:List Am} {to:List Int} {z:γ}
theorem ZG (h1:Fr (DB 4 Gs e) B1 U1 H v cs)(h2:Fr (BD rI e') B2 U2 H vt to)(h3:Fr E3 B3 U3 H vm z)(a:U1≤B2)(b:U2≤B3)(c:B1≤U1∧B2≤U2∧B3≤U3):Fr (M9 E3 vt vm 0 0 e e') B1 U3 H v (cs,to,z):=by
 obtain⟨F1,p1,p2,p3⟩:=h1
 obtain⟨F2,q1,q2,q3⟩:=h2
 obtain⟨F3,r1,r2,r3⟩:=h3
 refine⟨F1++(F2++F3),⟨F1,F2,F3,rfl,p1,q1,r1,fun b _=>.inr (Nat.zero_le b)⟩,List.nodup_append.2 ⟨p2,List.nodup_append.2 ⟨q2,r2,fun x hx y hy e=>?_⟩,fun x hx y hy e=>?_⟩,fun x hx=>?_⟩
 ·have:=q3 x hx;have:=r3 y hy;omega
 ·have:=p3 x hx
  rcases zi.1 hy with hy|hy
  ·have:=q3 y hy;omega
  ·have:=r3 y hy;omega
 ·rcases zi.1 hx with hx|hx
  ·have:=p3 x hx;omega
  ·rcases zi.1 hx with hx|hx
   ·have:=q3 x hx;omega
   ·have:=r3 x hx;omega
theorem Dk {p' q':Nat}(h:Fr (M9 E3 vt vm p q e e') B U H v (cs,to,z))(hq:U≤p'∨q'≤B):Fr (M9 E3 vt vm p' q' e e') B U H v (cs,to,z):=by
 obtain⟨F,⟨F1,F2,F3,rfl,h1,h2,h4,h5⟩,hn,hb⟩:=h
 exact⟨_,⟨F1,F2,F3,rfl,h1,h2,h4,fun b hbm=>by have:=hb b hbm;omega⟩,hn,hb⟩
theorem CQ (h3:BZ E3){w w':World}{F:List Nat}(h:Fr (M9 E3 vt vm p q e e') B U w.heap v (cs,to,z))(c:AB F w w')(hF:∀b∈F,(b<B∨U≤b)∨(p≤b∧b<q)):Fr (M9 E3 vt vm p q e e') B U w'.heap v (cs,to,z):=by
 obtain⟨G,h1,hn,hb⟩:=h
 have h5:∀b∈G,b<p∨q≤b:=by obtain⟨F1,F2,F3,rfl,_,_,_,h5⟩:=h1;exact h5
 exact⟨G,(Az h3).stable h1 fun b hm=>c.block b ((Az h3).lt h1 b hm) fun hf=>by have:=hF b hf;have:=hb b hm;have:=h5 b hm;omega,hn,hb⟩
theorem O8 {B U:Nat}(h1:Fr (DB 4 Gs e) B1 U1 H v cs)(h2:Fr (BD rI e') B2 U2 H vt to)(a:U1≤B2∨U2≤B1)(c:B≤B1∧B≤B2∧U1≤U∧U2≤U):Fr (M9 dV vt (.bool false) 0 0 e e') B U H v (cs,to,()):=by
 obtain⟨F1,p1,p2,p3⟩:=h1
 obtain⟨F2,q1,q2,q3⟩:=h2
 refine⟨F1++(F2++[]),⟨F1,F2,[],rfl,p1,q1,⟨rfl,rfl⟩,fun b _=>.inr (Nat.zero_le b)⟩,List.nodup_append.2 ⟨p2,by rw[List.append_nil];exact q2,fun x hx y hy e=>?_⟩,fun x hx=>?_⟩
 ·rw[List.append_nil]at hy
  have:=p3 x hx;have:=q3 y hy;omega
 ·rw[List.append_nil]at hx
  rcases zi.1 hx with hx|hx
  ·have:=p3 x hx;omega
  ·have:=q3 x hx;omega
theorem Cp (h:Fr (M9 E3 vt vm p q e e') B U H v (cs,to,z)):Fr (DB 4 Gs e) B U H v cs:=by
 obtain⟨F,⟨F1,F2,F3,rfl,h1,h2,h4,h5⟩,hn,hb⟩:=h
 exact⟨F1,h1,(List.nodup_append.1 hn).1,fun c hc=>hb c (by simp[hc])⟩
theorem Hn (h:Fr (M9 E3 vt vm p q e e') B U H v (cs,to,z)):Fr (BD rI e') B U H vt to:=by
 obtain⟨F,⟨F1,F2,F3,rfl,h1,h2,h4,h5⟩,hn,hb⟩:=h
 exact⟨F2,h2,(List.nodup_append.1 (List.nodup_append.1 hn).2.1).1,fun c hc=>hb c (by simp[hc])⟩
theorem Ma (h:Fr (M9 E3 vt vm p q e e') B U H v (cs,to,z)):Fr E3 B U H vm z:=by
 obtain⟨F,⟨F1,F2,F3,rfl,h1,h2,h4,h5⟩,hn,hb⟩:=h
 exact⟨F3,h4,(List.nodup_append.1 (List.nodup_append.1 hn).2.1).2.1,fun c hc=>hb c (by simp[hc])⟩
theorem Ez (h:Fr (DB 4 Gs e) B U H v cs):RN [] (CK 4 Gs) H v cs:=by
 obtain⟨F,h1,_,_⟩:=h
 exact⟨F,h1.rd Ap,fun b _ hm=>by cases hm⟩
theorem Gq {gs:List Bt}(h:Fr (DB 2 FV e) B U H v gs):RN [] (CK 2 FV) H v gs:=by
 obtain⟨F,h1,_,_⟩:=h
 exact⟨F,h1.rd As,fun b _ hm=>by cases hm⟩
theorem I4 (h:Fr (BD rI e) B U H v to):RN [] (Bl rI) H v to:=by
 obtain⟨F,h1,_,_⟩:=h
 exact⟨F,h1.rd id,fun b _ hm=>by cases hm⟩
end
section ops
variable {P:Program} {ops:Array Oper} {w0:World} {Q:Act→World→Prop} {os:List Oper} {ks:List Nat} {N:Nat} {ρ:Nat→Value} {w:World}
 {d:Nat} {ty:TypeId} {pos:String} {aft:Array Edge} {gd:Option (Nat×Bool)} {tt e e':TypeId} {zzq:Value} {b:Nat} {B U B' U':Nat} {v vt vm:Value} {cs:List Am} {to:List Int} {γ:Type} {z:γ} {E3:Bs γ} {p q:Nat}
theorem Ga (h3:BZ E3){x y:Operand}{a:Value}{c:Am}(ht:P.underlying tt=some (.slice e))(hi:TI P e 4 zzq b)(hz:zzq.cells.size=4)(hx:Br N ρ x=v)(hy:Br N ρ y=a)(h:Fr (M9 E3 vt vm p q e e') B U w.heap v (cs,to,z))(ha:Fr (DB 4 Gs e) B' U' w.heap a [c])(hU:U≤B')(hBw:B≤B'∧B≤w.heap.size)(hqw:q≤B'∧q≤w.heap.size)
  (hbytes:(cs.length+1)*b≤140737488355328) (hmx:cs.length+1≤maxLen) (hu:Up ops N ρ ⟨some d,.call ⟨.builtin .append,#[x,y],#[tt,tt]⟩,ty,pos,aft,gd⟩)
  (hn:∀v1 w1 F,AB F w w1→(∀c∈F,(B≤c∧c<U)∧(c<p∨q≤c))→Fr (M9 E3 vt vm p q e e') B w1.heap.size w1.heap v1 (cs++[c],to,z)→LW P ops w0 Q os ks (mk N (CI ρ d v1)) w1) :
  LW P ops w0 Q (⟨some d,.call ⟨.builtin .append,#[x,y],#[tt,tt]⟩,ty,pos,aft,gd⟩::os) (4::ks) (mk N ρ) w:=by
 obtain⟨F,⟨F1,F2,F3,rfl,h1,h2,h4,h5⟩,hnd,hb⟩:=h
 have n1:=List.nodup_append.1 hnd
 have hlt:∀c∈F2++F3,c<w.heap.size:=fun c hc=>(zi.1 hc).elim (fun hc=>(Bc AN).lt h2 c hc) (fun hc=>h3.lt h4 c hc)
 obtain⟨v',w',F,r1,⟨G1,k1,k2,k3⟩,r3,r4⟩:=L9 (P:=P) (ty:=ty) Ap ht hi hz zO (S:=fun b=>b∈F1) (T:=fun b=>B'≤b∧b<U') (v:=v) ⟨F1,h1,n1.1,fun b hb=>hb⟩ ha (fun b h8 h9=>by have:=hb b (by simp[h8]);omega) hbytes hmx
 have hst:∀c∈F2++F3,w'.heap[c]? = w.heap[c]?:=fun c hc=>r3.block c (hlt c hc) fun hm=>n1.2.2 c (r4 c hm) c hc rfl
 have hl1:=(An Ap).lt k1
 have hsz:=r3.size
 refine Ku rfl hu v' w' (by simp only[execOp,resolve,invoke,builtin,zc,zf,zh,Sem.run_bind,Sem.run_pure,Result.andThen_ok,hx,hy,r1])<|hn v' w' F r3 (fun c hc=>⟨hb c (by simp[r4 c hc]),h5 c (by simp[r4 c hc])⟩) ⟨G1++(F2++F3),⟨G1,F2,F3,rfl,k1,(Bc AN).stable h2 fun c hc=>hst c (by simp[hc]),h3.stable h4 fun c hc=>hst c (by simp[hc]),fun c hc=>?_⟩,List.nodup_append.2 ⟨k2,n1.2.1,fun c hc c' hc' ee=>?_⟩,fun c hc=>?_⟩
 ·rcases zi.1 hc with hc|hc
  ·rcases k3 c hc with hh|hh|hh
   ·exact h5 c (by simp[hh])
   ·omega
   ·omega
  ·exact h5 c<|z1 _ hc
 ·subst ee
  have hbc:=hb c<|z1 _ hc'
  have:=hlt c hc'
  rcases k3 c hc with hh|hh|hh
  ·exact n1.2.2 c hh c hc' rfl
  ·omega
  ·omega
 ·rcases zi.1 hc with hc|hc
  ·refine⟨?_,hl1 c hc⟩
   rcases k3 c hc with hh|hh|hh
   ·exact (hb c (by simp[hh])).1
   ·omega
   ·omega
  ·have:=hb c (z1 _ hc);have:=hlt c hc;omega
theorem I5 (h3:BZ E3){x y:Operand}{a:Value}{n:Int}(ht:P.underlying tt=some (.slice e'))(hi:TI P e' 1 zzq b)(hz:zzq.cells=#[zzq])(hx:Br N ρ x=vt)(hy:Br N ρ y=a)(h:Fr (M9 E3 vt vm p q e e') B U w.heap v (cs,to,z))(ha:Fr (BD rI e') B' U' w.heap a [n])(hU:U≤B')(hBw:B≤B'∧B≤w.heap.size)(hqw:q≤B'∧q≤w.heap.size)
  (hbytes:(to.length+1)*b≤140737488355328) (hmx:to.length+1≤maxLen) (hu:Up ops N ρ ⟨some d,.call ⟨.builtin .append,#[x,y],#[tt,tt]⟩,ty,pos,aft,gd⟩)
  (hn:∀v1 w1 F,AB F w w1→(∀c∈F,(B≤c∧c<U)∧(c<p∨q≤c))→Fr (M9 E3 v1 vm p q e e') B w1.heap.size w1.heap v (cs,to++[n],z)→LW P ops w0 Q os ks (mk N (CI ρ d v1)) w1) :
  LW P ops w0 Q (⟨some d,.call ⟨.builtin .append,#[x,y],#[tt,tt]⟩,ty,pos,aft,gd⟩::os) (4::ks) (mk N ρ) w:=by
 obtain⟨F,⟨F1,F2,F3,rfl,h1,h2,h4,h5⟩,hnd,hb⟩:=h
 have n1:=List.nodup_append.1 hnd
 have n2:=List.nodup_append.1 n1.2.1
 obtain⟨G,g1',g2',g3'⟩:=ha
 have hG1:G.drop 1=[]:=by
  rcases g1' with⟨_,_,rfl⟩|⟨vs,gb,cap,cur,F',hels,_,_,_,_,_,_,rfl⟩
  ·rfl
  ·rw[GZ hels];rfl
 obtain⟨v',w',F',r1,r2,r3,r4,r5⟩:=I7 (P:=P) (ty:=ty) AN ht hi hz h2 n2.1 (g1'.rd id) rfl hbytes hmx (by rw[hG1];intro c hc;cases hc) (by rw[hG1];exact zk)
 rw[hG1]at r4
 have hF':∀c∈F',c∈F2∨w.heap.size≤c:=fun c hc=>by
  rcases r4 c hc with hh|hh|hh
  ·exact .inl hh
  ·cases hh
  ·exact .inr zO
 have l1:=fun c hc=>(An Ap).lt h1 c hc
 have l3:=fun c hc=>h3.lt h4 c hc
 have l2:=(Bc AN).lt r2
 have hsz:=r5.size
 refine Ku rfl hu v' w' (by simp only[execOp,resolve,invoke,builtin,zc,zf,zh,Sem.run_bind,Sem.run_pure,Result.andThen_ok,hx,hy,r1])<|hn v' w' _ r5 (fun c hc=>⟨hb c (by simp[zj hc]),h5 c (by simp[zj hc])⟩) ⟨F1++(F'++F3),⟨F1,F',F3,rfl,(An Ap).stable h1 fun c hc=>r5.block c (l1 c hc) fun hm=>n1.2.2 c hc c (by simp[zj hm]) rfl,r2,h3.stable h4 fun c hc=>r5.block c (l3 c hc) fun hm=>n2.2.2 c (zj hm) c hc rfl,fun c hc=>?_⟩,List.nodup_append.2 ⟨n1.1,List.nodup_append.2 ⟨r3,n2.2.1,fun c hc c' hc' ee=>?_⟩,fun c hc c' hc' ee=>?_⟩,fun c hc=>?_⟩
 ·rcases zi.1 hc with hc|hc
  ·exact h5 c (by simp[hc])
  ·rcases zi.1 hc with hc|hc
   ·rcases hF' c hc with hh|hh
    ·exact h5 c (by simp[hh])
    ·omega
   ·exact h5 c (by simp[hc])
 ·subst ee
  rcases hF' c hc with hh|hh
  ·exact n2.2.2 c hh c hc' rfl
  ·have:=l3 c hc';omega
 ·subst ee
  rcases zi.1 hc' with hc'|hc'
  ·rcases hF' c hc' with hh|hh
   ·exact n1.2.2 c hc c (by simp[hh]) rfl
   ·have:=l1 c hc;omega
  ·exact n1.2.2 c hc c (by simp[hc']) rfl
 ·rcases zi.1 hc with hc|hc
  ·have:=hb c (by simp[hc]);have:=l1 c hc;omega
  ·rcases zi.1 hc with hc|hc
   ·refine⟨?_,l2 c hc⟩
    rcases hF' c hc with hh|hh
    ·exact (hb c (by simp[hh])).1
    ·omega
   ·have:=hb c (by simp[hc]);have:=l3 c hc;omega
theorem RH (h3:BZ E3){st:TypeId}{x y:Operand}{n:Int}{j:Nat}(hst:(P.info? st).map (·.size)=some 1)(hx:Br N ρ x=AE vt j 1)(hy:Br N ρ y=.int .i64 n)(hn:Bd n)(h:Fr (M9 E3 vt vm p q e e') B U w.heap v (cs,to,z))(hj:j<to.length)(hu:Up ops N ρ ⟨none,.store st x y,ty,pos,aft,gd⟩)
  (hk:∀w1 F,AB F w w1→w1.heap.size=w.heap.size→(∀c∈F,(B≤c∧c<U)∧(c<p∨q≤c))→Fr (M9 E3 vt vm p q e e') B U w1.heap v (cs,to.set j n,z)→LW P ops w0 Q os ks (mk N ρ) w1) :
  LW P ops w0 Q (⟨none,.store st x y,ty,pos,aft,gd⟩::os) (4::ks) (mk N ρ) w:=by
 obtain⟨F,⟨F1,F2,F3,rfl,h1,h2,h4,h5⟩,hnd,hb⟩:=h
 have n1:=List.nodup_append.1 hnd
 have n2:=List.nodup_append.1 n1.2.1
 obtain⟨w1,F',p1,p2,p3,p4,p5,p6⟩:=KG (P:=P) AN hst h2 n2.1 hj (u:=.int .i64 n) (y:=n) (G:=[]) ⟨rfl,rfl,hn.1,hn.2⟩ zk (fun b hb=>by cases hb)
 have hrun:(execOp (Br N ρ) ⟨none,.store st x y,ty,pos,aft,gd⟩).run P w=.ok .skip w1:=by
  simp only[execOp,hx,hy,Sem.run_bind,p1,Result.andThen_ok,Sem.run_pure]
 have hF':∀c∈F',c∈F2:=fun c hc=>(p4 c hc).elim id fun h=>by cases h
 refine Oi rfl hu _ hrun<|hk _ _ p5 p6 (fun c hc=>⟨hb c (by simp[zj hc]),h5 c (by simp[zj hc])⟩) ⟨F1++(F'++F3),⟨F1,F',F3,rfl,(An Ap).stable h1 fun c hc=>p5.block c ((An Ap).lt h1 c hc) fun hm=>n1.2.2 c hc c (by simp[zj hm]) rfl,p2,h3.stable h4 fun c hc=>p5.block c (h3.lt h4 c hc) fun hm=>n2.2.2 c (zj hm) c hc rfl,fun c hc=>?_⟩,List.nodup_append.2 ⟨n1.1,List.nodup_append.2 ⟨p3,n2.2.1,fun c hc c' hc' ee=>n2.2.2 c (hF' c hc) c' hc' ee⟩,fun c hc c' hc' ee=>?_⟩,fun c hc=>?_⟩
 ·rcases zi.1 hc with hc|hc
  ·exact h5 c (by simp[hc])
  ·rcases zi.1 hc with hc|hc
   ·exact h5 c (by simp[hF' c hc])
   ·exact h5 c (by simp[hc])
 ·rcases zi.1 hc' with hc'|hc'
  ·exact n1.2.2 c hc c' (by simp[hF' c' hc']) ee
  ·exact n1.2.2 c hc c' (by simp[hc']) ee
 ·rcases zi.1 hc with hc|hc
  ·exact hb c (by simp[hc])
  ·rcases zi.1 hc with hc|hc
   ·exact hb c (by simp[hF' c hc])
   ·exact hb c (by simp[hc])
end ops
end
section
open Go Go.RowKit Go.ChangeShapes Go.WideShapes Go.Deep
section
variable {H:Type} {enc:TypeId × Value→H} {P:Program} {W:World} {base:Nat} {held:Bool} {sp:Nat→Bool}
instance:Inhabited Ex:=⟨Ex.zero⟩
instance:Inhabited Fn:=⟨Fn.zero⟩
end
end
section
set_option maxHeartbeats 4000000
set_option maxRecDepth 100000
attribute [local irreducible] LW
theorem DA (w:World)(va:Value)(gl:List Bt)(g:Bt)(hgl:RN [] (CK 2 FV) w.heap va gl)(hg:Bd g.reg)(hll:gl.length≤1000000) :
    Calls Tryz.prog 177 #[va,(.agg #[(zI g.reg),(.bool g.z)])] w (fun e w'=>∃(x0:Int),e=.returned (zI x0)∧AD w w'∧((-1≤x0∧x0≤1000000)∧(0≤x0↔g∈gl))):=by
  refine Aw [va,.agg #[zI g.reg,.bool g.z]] 19 Tryz.func177 Z Z sM ?_
  have a6:AD w w:=AD.refl w
  refine fQ [3,0] Z (BC (cs:=#[zI g.reg,.bool g.z]) Z Ac fun w1 a2 ab a3=>?_)
  have a4:=a2.size
  have a7:=a6.trans a2
  replace a3:BX w1.heap w.heap.size [zI g.reg,.bool g.z]:=a3
  refine Ae 1 Z<|A0<|fQ [0,0,0] Z<|Af 1 Z<|AU (v:=va) Ky Z hgl.isSl Ac<|Ae 1 Z<|A5 ?_
  refine B8 (S:=Nat) (fun k=>([(8,zI (k:Int)),(0,va),(3,zP w.heap.size),(7,zI (gl.length:Int))])) (fun k W=>AD w W∧BX W.heap w.heap.size [zI g.reg,.bool g.z]∧k≤gl.length∧(∀j,j<k→gl.getD j Bt.zero≠g)) (fun k=>gl.length-k) 0 ⟨rfl,rfl,rfl,rfl,trivial⟩ ⟨a7,a3,sD,(by intro j hj;omega)⟩ ?_
  clear a6 ab a2 a4 a7
  rintro k ρ2 w2 ⟨a1,a0,a8,hq⟩
  have ac:w.heap.size≤w2.heap.size:=a1.size
  have af:=a0.lt
  refine fQ [0] Z ?_
  by_cases a9:(k:Int)<(gl.length:Int)
  ·
    refine AJ true Z Z (A7 a9) Ac<|Aj<|A0<|Ah Z<|A4<|A0<|A5<|fQ [0,0] Z<|Ae 2 Z<|A0<|B7 _ [1,0,0,0,1,0] mixed (by kernel_rfl)<|AC (p:=zP w.heap.size) (.inl Z) [zI g.reg,.bool g.z] DV Z (fun ah a5=>LD.of_box<|BX.ext (w:=w2.drew) a0 a5) Z Ac<|Af 2 Z ?_
    refine AH (v:=va) k Ky Ed Z Z hgl.isSl Z sD Ac ?_
    obtain⟨cs5,ad,ae⟩:=hgl.get As Bt.zero (k:=k) sD
    obtain⟨rfl,ag⟩:=HN ad
    refine AC (p:=AE va k 2) (.inl Z) [zI<|(gl.getD k Bt.zero).reg,.bool<|(gl.getD k Bt.zero).z] DV Z (fun ah a5=>ae ah<|AB.of_ext []<|a1.drew.trans a5) Z Ac ?_
    by_cases aa:g=gl.getD k Bt.zero
    ·
      exact Us true (a:=g) (b:=gl.getD k Bt.zero) (by kernel_rfl) Z Z Z Z ⟨fun _=>aa,fun _=>rfl⟩ Ac<|Aj<|Ah Z<|fQ [0,0] Z<|Ae 2 Z<|A3<|AM<|At<|At<|AM<|At<|Al [4] Z (zI (k:Int)) Z ⟨(k:Int),rfl,a1.drew,(by exact⟨⟨zO,zO⟩,fun _=>Ut (k:=k) oM (by assumption:g=gl.getD k Bt.zero).symm,fun _=>by omega⟩)⟩
    refine Us false (a:=g) (b:=gl.getD k Bt.zero) (by kernel_rfl) Z Z Z Z ⟨(fun h=>by cases h),fun h=>absurd h aa⟩ Ac<|Aj<|Ak Z<|A4<|Ad _ [0,0] Z<|AS ((k+1:Nat):Int) Z Z (Bg oM sD) Ac<|Ae 1 Z ?_
    exact⟨k+1,_,rfl,zR,⟨a1.drew,a0,sD,(by exact X0 hq (by assumption))⟩,zD⟩
  exact AJ false Z Z (A8 a9) Ac<|Aj<|A0<|Ak Z<|A6<|AA<|AA<|Ax<|fR Z<|A3<|Al [4] Z (zI (-1)) Z ⟨-1,rfl,a1,(by exact⟨⟨zO,zO⟩,fun h9=>absurd h9 oM,fun h9=>absurd h9<|VZ hq oM⟩)⟩
theorem Df (w:World)(va:Value)(gl:List Bt)(g:Bt)(hgl:RN [] (CK 2 FV) w.heap va gl)(hg:Bd g.reg)(hll:gl.length≤1000000) :
    Calls Tryz.prog 121 #[va,(.agg #[(zI g.reg),(.bool g.z)])] w (fun e w'=>e=.returned (.bool (Pe g gl))∧AD w w'):=by
  refine Aw [va,.agg #[zI g.reg,.bool g.z]] 9 Tryz.func121 Z Z sM ?_
  have a5:AD w w:=AD.refl w
  refine fQ [3,0] Z (BC (cs:=#[zI g.reg,.bool g.z]) Z Ac fun w1 a2 aa a0=>?_)
  have a6:=a2.size
  have a3:=a5.trans a2
  replace a0:BX w1.heap w.heap.size [zI g.reg,.bool g.z]:=a0
  refine Ae 1 Z<|fQ [0,2,3,0,0] Z<|Af 1 Z<|AC (p:=zP w.heap.size) (.inr Z) [zI g.reg,.bool g.z] DV Z (fun ac a7=>LD.of_box<|BX.ext (w:=w1) a0 a7) Z Ac<|Ay 177 [] [] [va,.agg #[zI g.reg,.bool g.z]] Z Z cQ Ac (DA _ va gl g (hgl.ext (Aq As) a3) hg oM) ?_
  rintro e2 w2 ⟨ab,rfl,a1,a4⟩
  refine⟨_,rfl,a1,?_⟩
  have a8:=a1.size
  have a9:=a3.trans a1
  exact DO (decide (((0:Nat):Int)≤ab)) Z Z Z Ac<|Ae 1 Z<|A3<|Al [4] Z (.bool<|decide (((0:Nat):Int)≤ab)) Z ⟨AQ (VY (by assumption:_∧_).2),a9⟩
theorem D3 (w:World) (va:Value) (gl:List Bt) (q:Nat) (qf qc:List Value) (pr:Bt→Bool) (hgl:RN [] (CK 2 FV) w.heap va gl) (hcf_q:((Tryz.prog.funcs[q]?).map fun fn=>(fn.name != "runtime.NumGoroutine") && fn.body.isSome) = some true) (hpr:∀ (x:Bt) w1,x∈gl→AD w w1→Calls Tryz.prog q (qf++[Value.agg #[Value.int .i64 x.reg,Value.bool x.z]]++qc).toArray w1 (fun e w2=>e = .returned (.bool (pr x))∧AD w1 w2)) (hll:gl.length≤1000000000) :
    Calls Tryz.prog 125 #[va,.func (.func q) qf.toArray qc.toArray] w (fun e w'=>e = .returned (zI (Q4 pr gl))∧AD w w'):=by
  refine Aw [va,.func (.func q) qf.toArray qc.toArray] 19 Tryz.func125 Z Z sM ?_
  have a3:AD w w:=AD.refl w
  refine fR Z<|A0<|fQ [0,0,0] Z<|Af 1 Z<|AU (v:=va) Ky Z hgl.isSl Ac<|Ae 1 Z<|A5 ?_
  refine B8 (S:=Nat) (fun k=>([(8,zI (k:Int)),(0,va),(1,.func (.func q) qf.toArray qc.toArray),(7,zI (gl.length:Int))])) (fun k W=>AD w W∧k≤gl.length∧(∀ j,j < k→pr (gl.getD j Bt.zero) = false)) (fun k=>gl.length - k) 0 ⟨rfl,rfl,rfl,rfl,trivial⟩ ⟨a3,sD,(by intro j hj; omega)⟩ ?_
  clear a3
  rintro k ρ1 w1 ⟨a1,a4,hq⟩
  have a7:w.heap.size≤w1.heap.size:=a1.size
  refine fQ [0] Z ?_
  by_cases a5:(k:Int) < (gl.length:Int)
  ·
    refine AJ true Z Z (A7 a5) Ac<|Aj<|A0<|Ah Z<|A4<|A0<|A5<|fQ [0,0] Z<|Ae 2 Z<|fQ [0,0,0,0,2,3] Z<|Af 3 Z<|AH (v:=va) k Ky Ed Z Z hgl.isSl Z sD Ac ?_
    obtain ⟨cs3,a8,a9⟩:=hgl.get As Bt.zero (k:=k) sD
    obtain ⟨rfl,ac⟩:=HN a8
    refine AC (p:=AE va k 2) (.inr Z) [zI<|(gl.getD k Bt.zero).reg,.bool<|(gl.getD k Bt.zero).z] DV Z (fun ae aa=>a9 ae<|AB.of_ext []<|a1.trans aa) Z Ac ?_
    have a0:=hpr (gl.getD k Bt.zero) w1 (Mm _ oM) a1
    refine Ay q qf qc _ Z Z hcf_q Ac a0 ?_
    rintro e4 w4 ⟨rfl,a2⟩
    refine ⟨_,rfl,a2,?_⟩
    have ab:=a2.size
    have a6:=a1.trans a2
    cases ad:pr (gl.getD k Bt.zero)
    ·
      refine Aj<|Ak Z<|A4<|Ad _ [0,0] Z<|AS ((k + 1:Nat):Int) Z Z (Bg oM sD) Ac<|Ae 1 Z ?_
      exact ⟨k + 1,_,rfl,zR,⟨a6,sD,(by exact NZ hq (by assumption))⟩,by first | omega | (dsimp only; omega)⟩
    exact Aj<|Ah Z<|fQ [0,0] Z<|Ae 2 Z<|A3<|AM<|At<|At<|AM<|At<|Al [4] Z (zI (k:Int)) Z ⟨Bm<|Q5 Bt.zero hq oM (by assumption),a6⟩
  exact AJ false Z Z (A8 a5) Ac<|Aj<|A0<|Ak Z<|A6<|AA<|AA<|Ax<|fR Z<|A3<|Al [4] Z (zI (-1)) Z ⟨Bm<|U7 Bt.zero hq oM,a1⟩
theorem CS (w:World) (va:Value) (gl:List Bt) (q:Nat) (qf qc:List Value) (pr:Bt→Bool) (hgl:RN [] (CK 2 FV) w.heap va gl) (hcf_q:((Tryz.prog.funcs[q]?).map fun fn=>(fn.name != "runtime.NumGoroutine") && fn.body.isSome) = some true) (hpr:∀ (x:Bt) w1,x∈gl→AD w w1→Calls Tryz.prog q (qf++[Value.agg #[Value.int .i64 x.reg,Value.bool x.z]]++qc).toArray w1 (fun e w2=>e = .returned (.bool (pr x))∧AD w1 w2)) (hll:gl.length≤1000000000) :
    Calls Tryz.prog 64 #[va,.func (.func q) qf.toArray qc.toArray] w (fun e w'=>e = .returned (.bool (gl.any pr))∧AD w w'):=by
  refine Aw [va,.func (.func q) qf.toArray qc.toArray] 9 Tryz.func64 Z Z sM ?_
  have a0:AD w w:=AD.refl w
  refine fR Z<|fQ [0,0,3,0,0] Z<|Af 2 Z<|Ay 125 [] [] [va,.func (.func q) qf.toArray qc.toArray] Z Z bZ Ac (D3 _ va gl q qf qc pr (hgl.ext (Aq As) a0) hcf_q (fun x w1 hx hw=>hpr x w1 hx<|a0.trans hw) oM) ?_
  rintro e1 w1 ⟨rfl,a1⟩
  refine ⟨_,rfl,a1,?_⟩
  have a2:=a1.size
  have a3:=a0.trans a1
  exact DO (decide (((0:Nat):Int)≤Q4 pr gl)) Z Z Z Ac<|Ae 1 Z<|A3<|Al [4] Z (.bool<|decide (((0:Nat):Int)≤Q4 pr gl)) Z ⟨AQ<|U8 pr gl,a3⟩
theorem It (w:World)(g:Bt)(vr:Nat)(vrv:Value)(R:Sr)(hg:Bd g.reg)(hcR:Hp w.heap (zP vr)=some vrv)(hR:Rd (Bl rI) w.heap vrv R)(hrg:0≤g.reg∧g.reg<(R.length:Int)) :
    Calls Tryz.prog 65 #[(.agg #[(zI g.reg),(.bool g.z)]),zP vr] w (fun e w'=>e=.returned (.bool (decide (R.getD g.reg.toNat 0=0) != g.z))∧AD w w'):=by
  refine Aw [.agg #[zI g.reg,.bool g.z],zP vr] 13 Tryz.func65 Z Z sM ?_
  have a3:AD w w:=AD.refl w
  have hl_vrv:=hR.lenle
  refine fQ [3,0] Z (BC (cs:=#[zI g.reg,.bool g.z]) Z Ac fun w1 a2 a5 a0=>?_)
  have a4:=a2.size
  have a1:=a3.trans a2
  replace a0:BX w1.heap w.heap.size [zI g.reg,.bool g.z]:=a0
  refine Ae 1 Z<|A0<|B7 _ [1,0,1,0,1,0,0,1,0,0] mixed (by kernel_rfl)<|Ai (.inl Z) vrv BN Z (Bk a1.drew hcR) Ac<|Ao (p:=zP w.heap.size) 0 KZ Z Z Ac<|Ai (p:=Au (zP w.heap.size) 0) (.inl Z) (zI g.reg) AG Z (a0.ldp (i:=0) sM) Ac ?_
  refine AH (v:=vrv) ((g.reg).toNat) Bu BL Z Z hR.isSl oM sD Ac ?_
  refine Ai (p:=AE vrv ((g.reg).toNat) 1) (.inl Z) (zI<|R.getD ((g.reg).toNat) 0) AG Z (Bk a1.drew (hR.getI sD).1) Ac<|Av (decide (R.getD ((g.reg).toNat) 0=((0:Nat):Int))) Z Z Z Ac<|Ao (p:=zP w.heap.size) 1 Rw Z Z Ac<|Ai (p:=Au (zP w.heap.size) 1) (.inl Z) (.bool g.z) PZ Z (a0.ldp (i:=1) sM) Ac ?_
  exact Yd (!((decide (R.getD ((g.reg).toNat) 0=((0:Nat):Int))) == g.z)) u4 Z Z Z Ac<|Ae 1 Z<|A3<|Al [3] Z (.bool (!((decide (R.getD ((g.reg).toNat) 0=((0:Nat):Int))) == g.z))) Z ⟨(by first|rfl|exact AQ (by first|rfl|simp_all)),a1.drew⟩
theorem Mb (w:World)(va:Value)(a:Sr)(vb:Value)(b:Sr)(ha:Rd (Bl rI) w.heap va a)(hb:Rd (Bl rI) w.heap vb b)  :
    Calls Tryz.prog 61 #[va,vb] w (fun e w'=>e=.returned (.bool (decide (a=b)))∧AD w w'):=by
  refine Aw [va,vb] 26 Tryz.func61 Z Z sM ?_
  have a1:AD w w:=AD.refl w
  have a7:=ha.lenle
  have a8:=hb.lenle
  refine fR Z<|A0<|fQ [0,0,0,0,0] Z<|Af 1 Z<|AU (v:=va) Bu Z ha.isSl Ac<|Af 1 Z<|AU (v:=vb) Bu Z hb.isSl Ac ?_
  by_cases a2:(a.length:Int)≠(b.length:Int)
  ·
    exact Be true Z Z (A7 a2) Ac<|Aj<|Ah Z<|fR Z<|A3<|At<|Al [4] Z (.bool false) Z ⟨AQ (A8<|QA oM).symm,a1⟩
  refine Be false Z Z (A8 a2) Ac<|Aj<|Ak Z<|A4<|A0<|fR Z<|A5<|B8 (S:=Nat) (fun k=>([(5,zI (k:Int)),(0,va),(1,vb)])) (fun k W=>AD w W∧k≤a.length∧(∀j,j<k→a.getD j 0=b.getD j 0)) (fun k=>a.length-k) 0 ⟨rfl,rfl,rfl,trivial⟩ ⟨a1,sD,(by intro j hj;omega)⟩ ?_
  clear a1
  rintro k ρ2 w2 ⟨a0,a3,hq⟩
  have a6:w.heap.size≤w2.heap.size:=a0.size
  refine A0<|fQ [0,0,0,0] Z<|Af 2 Z<|AU (v:=va) Bu Z ha.isSl Ac ?_
  by_cases a4:(k:Int)<(a.length:Int)
  ·
    refine AJ true Z Z (A7 a4) Ac<|Aj<|Ah Z<|A4<|A0<|A5<|A0<|B7 _ [0,0,0,1,0,0,0,1,0] mixed (by kernel_rfl)<|Af 2 Z<|AH (v:=va) k Bu BL Z Z ha.isSl Z sD Ac ?_
    refine Ai (p:=AE va k 1) (.inl Z) (zI<|a.getD k 0) AG Z (Bk a0.drew (ha.getI sD).1) Ac<|Af 2 Z ?_
    refine AH (v:=vb) k Bu BL Z Z hb.isSl Z sD Ac ?_
    refine Ai (p:=AE vb k 1) (.inl Z) (zI<|b.getD k 0) AG Z (Bk a0.drew (hb.getI sD).1) Ac ?_
    by_cases a5:a.getD k 0≠b.getD k 0
    ·
      exact Be true Z Z (A7 a5) Ac<|Aj<|Ah Z<|fR Z<|A3<|AM<|At<|At<|AM<|At<|Al [4] Z (.bool false) Z ⟨AQ (A8<|Ov (d:=0) (k:=k) oM).symm,a0.drew⟩
    refine Be false Z Z (A8 a5) Ac<|Aj<|Ak Z<|A4<|Ad _ [0,0,0] Z<|Af 1 Z<|AS ((k+1:Nat):Int) Z Z (Bg oM sD) Ac<|Ae 1 Z ?_
    exact⟨k+1,_,rfl,zR,⟨a0.drew,sD,(by exact Ou hq oM)⟩,zD⟩
  exact AJ false Z Z (A8 a4) Ac<|Aj<|Ak Z<|A6<|AA<|AA<|Ax<|fR Z<|A3<|Al [4] Z (.bool true) Z ⟨AQ (A7<|Lb hq oM oM).symm,a0⟩
theorem Y6 {p:Prop}(h:p:=by first|(rw[hgx,if_pos rfl];rfl)|(rw[if_neg oM];done)|(rw[if_pos oM];rfl)|(rw[if_neg oM];rfl)):p:=h
theorem Gb (w:World)(a:Sr)(ipT:Int)(vtc vtg vtx:Value)(T:Tp)(oT:Sr)(vd:Value)(d:Sr)(_hipT:Bd ipT)(htcT:RN [] (CK 4 Gs) w.heap vtc T.code)(htgT:RN [] (CK 2 FV) w.heap vtg T.grd)(htoT:RN [] (Bl rI) w.heap vtx oT)(hd:Rd (Bl rI) w.heap vd d)(hip:ipT=(a.length:Int))(hR:Iz a T oT)(hdd:d.length=a.length∧Bj d=true) :
    Calls Tryz.prog 15 #[(.agg #[(zI ipT),vtc,vtg,vtx]),vd] w (fun e w'=>e=.returned (.tuple #[.bool (if DC d T.code=0 then Rj (Ly d T.code) T.grd else false),zI (DC d T.code)])∧AD w w'):=by
  refine Aw [.agg #[zI ipT,vtc,vtg,vtx],vd] 22 Tryz.func15 Z Z sM ?_
  have al:AD w w:=AD.refl w
  have hl_vtx:=htoT.lenL
  unfold maxLen at hl_vtx
  have aj:=hd.lenle
  have hK:=hR.k
  have hni:=hK.nb
  have hcl:=hK.cl
  have ak:=hK.gl
  have hol:=hK.ol
  have hpos:=hK.pos
  refine fQ [3,0,0] Z (BC (cs:=#[zI ipT,vtc,vtg,vtx]) Z Ac fun w1 ae aw a7=>?_)
  have am:=ae.size
  have a3:=al.trans ae
  replace a7:BX w1.heap w.heap.size [zI ipT,vtc,vtg,vtx]:=a7
  refine Ae 2 Z<|fQ [2,0,3,0,0,0,3,4,0] Z<|AC (p:=zP w.heap.size) (.inr Z) [zI ipT,vtc,vtg,vtx] BE Z (fun b0 an=>LD.of_box<|BX.ext (w:=w1) a7 an) Z Ac<|Af 1 Z<|Ay 62 [] [] [.agg #[zI ipT,vtc,vtg,vtx],vd] Z Z bN Ac (FT _ a (ipT) vtc vtg vtx (T) (oT) _ _ _hipT (htcT.ext (Aq Ap) a3) (htgT.ext (Aq As) a3) (htoT.ext g1 a3) (hd.ext g1 a3) oM hR hdd) ?_
  rintro e2 w2 ⟨a1,rfl,a8,a4⟩
  refine⟨_,rfl,a8,?_⟩
  have ao:=a8.size
  have ap:=a3.trans a8
  have a2:=a7.ext a8
  refine Af 1 Z<|AO (vs:=[a1,zI<|DC d T.code]) a1 Z Z Ac<|AO (vs:=[a1,zI<|DC d T.code]) (zI<|DC d T.code) Z Z Ac ?_
  have ax:=a2.lt
  refine B9 (z:=zN) (by kernel_rfl) Ac fun w3 a9 ay ab=>?_
  have aq:=a9.size
  have af:=ap.trans a9
  have a5:=a2.ext a9
  have a0:=a4.ext (o1) a9
  replace ab:BX w3.heap w2.heap.size [zN]:=ab
  refine Bn (k:=0) (w:=w3) Pb Z Z (AT a0.isSl) ab sM Ac fun w5 aa az ac=>?_
  replace ac:BX w5.heap w2.heap.size [a1]:=ac
  have ad:AD w w5:=aa.below af (fun _ h=>zE h) af.size
  have ar:w3.heap.size≤w5.heap.size:=aa.size
  have ag:=a5.chg aa (zB ·)
  have ah:=a0.chg (o1) aa fun _ h=>zA h
  refine Ae 1 Z<|A0<|fQ [0,0] Z<|Af 1 Z ?_
  by_cases ai:DC d T.code≠((0:Nat):Int)
  ·
    exact Be true Z Z (A7 ai) Ac<|Aj<|Ah Z<|fQ [0,0,0] Z<|Ae 3 Z<|A3<|At<|Al [4,5] Z (.tuple #[.bool false,zI<|DC d T.code]) Z ⟨Y6,ad⟩
  refine Be false Z Z (A8 ai) Ac<|Aj<|Ak Z<|A4<|fQ [0,2,0,3,0,0,0] Z ?_
  have hgx:DC d T.code=0:=by omega
  refine Ao (p:=zP w.heap.size) 2 DT Z Z Ac<|Ai (p:=Au (zP w.heap.size) 2) (.inr Z) vtg GM Z (ag.ldp (i:=2) sM) Ac<|L6 [] [zP w2.heap.size] Z Z Ac ?_
  refine Ay 64 [] [] [vtg,.func (.func 65) #[] #[zP w2.heap.size]] Z Z fz Ac (CS _ vtg T.grd 65 [] [zP w2.heap.size] (fun g=>decide ((Ly d T.code).getD g.reg.toNat 0=0) != g.z) (htgT.ext (Aq As) ad) fA (fun x w1 hx hw=>It w1 x (w2.heap.size) a1 (Ly d T.code) (show Bd x.reg from by have h9:=eK hR x hx;unfold Bd;omega) ((BX.ext (w:=w5) ac hw).ld (k:=0) sM) ((ah.ext o1 hw).rd1) (by have h9:=eK hR x hx;have h8:=Rc hgx;omega)) oM) ?_
  rintro e9 w9 ⟨rfl,a6⟩
  refine⟨_,rfl,a6,?_⟩
  have au:=a6.size
  have av:=ad.trans a6
  exact BF (!(T.grd.any fun g=>decide ((Ly d T.code).getD g.reg.toNat 0=0) != g.z)) Z Z Ac<|Ae 2 Z<|A3<|Al [4,5] Z (.tuple #[.bool (!(T.grd.any fun g=>decide ((Ly d T.code).getD g.reg.toNat 0=0) != g.z)),zI ((0:Nat):Int)]) Z ⟨Y6,av⟩
theorem KE (w:World)(ipT:Int)(vtc vtg vtx:Value)(T:Tp)(oT:Sr)(ipU:Int)(vuc vug vux:Value)(U:Tp)(oU:Sr)(_hipT:Bd ipT)(htcT:RN [] (CK 4 Gs) w.heap vtc T.code)(htgT:RN [] (CK 2 FV) w.heap vtg T.grd)(htoT:RN [] (Bl rI) w.heap vtx oT)(_hipU:Bd ipU)(htcU:RN [] (CK 4 Gs) w.heap vuc U.code)(htgU:RN [] (CK 2 FV) w.heap vug U.grd)(htoU:RN [] (Bl rI) w.heap vux oU)(hip:ipT=ipU)(hcd:T.code=U.code)(hgd:T.grd=U.grd)(hod:oT=oU)(hcl:T.code.length≤3200)(hgl:T.grd.length≤3200) :
    Calls Tryz.prog 13 #[(.agg #[(zI ipT),vtc,vtg,vtx]),(.agg #[(zI ipU),vuc,vug,vux])] w (fun e w'=>e=.returned (.bool true)∧AD w w'):=by
  refine Aw [.agg #[zI ipT,vtc,vtg,vtx],.agg #[zI ipU,vuc,vug,vux]] 74 Tryz.func13 Z Z sM ?_
  have az:AD w w:=AD.refl w
  have hl_vtx:=htoT.lenL
  unfold maxLen at hl_vtx
  have hl_vux:=htoU.lenL
  unfold maxLen at hl_vux
  have b4:=congrArg List.length hcd
  have b5:=congrArg List.length hgd
  refine fQ [3,3,0] Z (BC (cs:=#[zI ipT,vtc,vtg,vtx]) Z Ac fun w1 aj b6 ag=>?_)
  have ak:=aj.size
  have b0:=az.trans aj
  replace ag:BX w1.heap w.heap.size [zI ipT,vtc,vtg,vtx]:=ag
  have bi:=ag.lt
  refine BC (cs:=#[zI ipU,vuc,vug,vux]) Z Ac fun w2 ah b7 a6=>?_
  have al:=ah.size
  have ai:=b0.trans ah
  have a2:=ag.ext ah
  replace a6:BX w2.heap w1.heap.size [zI ipU,vuc,vug,vux]:=a6
  refine Ae 1 Z<|A0<|fQ [0,2,0,2,0,0,0,2,0,0,2,0,0,0,0,0,2,0,0,2,0,0,0,0,0,2,0,2,3,0,0] Z<|Ao (p:=zP w.heap.size) 0 IW Z Z Ac<|Ai (p:=Au (zP w.heap.size) 0) (.inr Z) (zI ipT) AG Z (a2.ldp (i:=0) sM) Ac<|Ao (p:=zP w1.heap.size) 0 IW Z Z Ac<|Ai (p:=Au (zP w1.heap.size) 0) (.inr Z) (zI ipU) AG Z (a6.ldp (i:=0) sM) Ac ?_
  have b8:¬(ipT≠ipU):=(fun h9=>h9 hip)
  refine Be false Z Z (A8 b8) Ac<|Af 1 Z<|Ao (p:=zP w.heap.size) 1 Ck Z Z (Ag (e:=12) Z Z Z)<|Ai (p:=Au (zP w.heap.size) 1) (.inr Z) vtc Dx Z (a2.ldp (i:=1) sM) (Ag (e:=12) Z Z Z)<|AU (v:=vtc) Dg Z htcT.isSl (Ag (e:=12) Z Z Z)<|Ao (p:=zP w1.heap.size) 1 Ck Z Z (Ag (e:=12) Z Z Z)<|Ai (p:=Au (zP w1.heap.size) 1) (.inr Z) vuc Dx Z (a6.ldp (i:=1) sM) (Ag (e:=12) Z Z Z)<|AU (v:=vuc) Dg Z htcU.isSl (Ag (e:=12) Z Z Z) ?_
  have b9:¬((T.code.length:Int)≠(U.code.length:Int)):=oM
  refine Be false Z Z (A8 b9) (Ag (e:=12) Z Z Z)<|Af 2 Z<|Ao (p:=zP w.heap.size) 2 DT Z Z (Ag (e:=21) Z Z Z)<|Ai (p:=Au (zP w.heap.size) 2) (.inr Z) vtg GM Z (a2.ldp (i:=2) sM) (Ag (e:=21) Z Z Z)<|AU (v:=vtg) Ky Z htgT.isSl (Ag (e:=21) Z Z Z)<|Ao (p:=zP w1.heap.size) 2 DT Z Z (Ag (e:=21) Z Z Z)<|Ai (p:=Au (zP w1.heap.size) 2) (.inr Z) vug GM Z (a6.ldp (i:=2) sM) (Ag (e:=21) Z Z Z)<|AU (v:=vug) Ky Z htgU.isSl (Ag (e:=21) Z Z Z) ?_
  have ba:¬((T.grd.length:Int)≠(U.grd.length:Int)):=oM
  refine Be false Z Z (A8 ba) (Ag (e:=21) Z Z Z)<|Af 2 Z<|Ao (p:=zP w.heap.size) 3 Es Z Z (Ag (e:=30) Z Z Z)<|Ai (p:=Au (zP w.heap.size) 3) (.inr Z) vtx BN Z (a2.ldp (i:=3) sM) (Ag (e:=30) Z Z Z)<|Ao (p:=zP w1.heap.size) 3 Es Z Z (Ag (e:=30) Z Z Z)<|Ai (p:=Au (zP w1.heap.size) 3) (.inr Z) vux BN Z (a6.ldp (i:=3) sM) (Ag (e:=30) Z Z Z)<|Ay 61 [] [] [vtx,vux] Z Z fw (Ag (e:=30) Z Z Z) (Mb _ _ _ _ _ (htoT.ext g1 ai).rd (htoU.ext g1 ai).rd) ?_
  rintro e7 w7 ⟨rfl,a8⟩
  refine⟨_,rfl,a8,?_⟩
  have am:=a8.size
  have b1:=ai.trans a8
  have aa:=a2.ext a8
  have ab:=a6.ext a8
  rw[show(decide (oT=oU))=true from A7 hod]
  refine BF false Z Z (Ag (e:=30) Z Z Z)<|Ae 1 Z<|Ak Z<|A4<|A0<|fR Z<|A5<|B8 (S:=Nat) (fun k=>([(5,zI (k:Int)),(2,zP w.heap.size),(3,zP w1.heap.size)])) (fun k W=>AD w W∧BX W.heap w.heap.size [zI ipT,vtc,vtg,vtx]∧BX W.heap w1.heap.size [zI ipU,vuc,vug,vux]∧k≤T.code.length) (fun k=>T.code.length-k) 0 ⟨rfl,rfl,rfl,trivial⟩ ⟨b1,aa,ab,oM⟩ ?_
  clear az b6 aj ak b0 b7 ah al ai a8 am b1
  rintro k ρ8 w8 ⟨a9,a0,a3,b2⟩
  have an:w.heap.size≤w8.heap.size:=a9.size
  have bj:=a0.lt
  have bb:=a3.lt
  refine A0<|fQ [0,0,2,0,0] Z<|Af 1 Z<|Ao (p:=zP w.heap.size) 1 Ck Z Z Ac<|Ai (p:=Au (zP w.heap.size) 1) (.inr Z) vtc Dx Z (a0.ldp (i:=1) sM) Ac<|AU (v:=vtc) Dg Z htcT.isSl Ac ?_
  by_cases ac:(k:Int)<(T.code.length:Int)
  ·
    refine AJ true Z Z (A7 ac) Ac<|Aj<|Ah Z<|A4<|A0<|A5<|A0<|B7 _ [0,1,0,0,1,0,1,0,0,1,0] mixed (by kernel_rfl)<|Ao (p:=zP w.heap.size) 1 Ck Z Z Ac<|Ai (p:=Au (zP w.heap.size) 1) (.inl Z) vtc Dx Z (a0.ldp (i:=1) sM) Ac<|Af 1 Z ?_
    refine AH (v:=vtc) k Dg BI Z Z htcT.isSl Z sD Ac ?_
    obtain⟨cs12,ao,ap⟩:=htcT.get Ap Am.zero (k:=k) sD
    obtain⟨rfl,bc⟩:=DG ao
    refine AC (p:=AE vtc k 4) (.inl Z) [zI<|(T.code.getD k Am.zero).op,zI<|(T.code.getD k Am.zero).a,zI<|(T.code.getD k Am.zero).b,zI<|(T.code.getD k Am.zero).num] Bx Z (fun bk a7=>ap bk<|AB.of_ext []<|a9.drew.trans a7) Z Ac<|Ao (p:=zP w1.heap.size) 1 Ck Z Z Ac<|Ai (p:=Au (zP w1.heap.size) 1) (.inl Z) vuc Dx Z (a3.ldp (i:=1) sM) Ac<|Af 1 Z ?_
    refine AH (v:=vuc) k Dg BI Z Z htcU.isSl Z sD Ac ?_
    obtain⟨cs13,aq,ar⟩:=htcU.get Ap Am.zero (k:=k) sD
    obtain⟨rfl,bd⟩:=DG aq
    refine AC (p:=AE vuc k 4) (.inl Z) [zI<|(U.code.getD k Am.zero).op,zI<|(U.code.getD k Am.zero).a,zI<|(U.code.getD k Am.zero).b,zI<|(U.code.getD k Am.zero).num] Bx Z (fun bk a7=>ar bk<|AB.of_ext []<|a9.drew.trans a7) Z Ac ?_
    have ad:([(T.code.getD k Am.zero).op,(T.code.getD k Am.zero).a,(T.code.getD k Am.zero).b,(T.code.getD k Am.zero).num]:Sr)=[(U.code.getD k Am.zero).op,(U.code.getD k Am.zero).a,(U.code.getD k Am.zero).b,(U.code.getD k Am.zero).num]:=by rw[hcd]
    refine ZA (us:=[(T.code.getD k Am.zero).op,(T.code.getD k Am.zero).a,(T.code.getD k Am.zero).b,(T.code.getD k Am.zero).num]) (vs:=[(U.code.getD k Am.zero).op,(U.code.getD k Am.zero).a,(U.code.getD k Am.zero).b,(U.code.getD k Am.zero).num]) false (by kernel_rfl) Z Z Z Z Z (by rw[A7 ad];rfl) Ac<|Aj<|Ak Z<|A4<|Ad _ [0,0,0] Z<|Af 1 Z ?_
    exact AS ((k+1:Nat):Int) Z Z (Bg oM sD) Ac<|Ae 1 Z ⟨k+1,_,rfl,zR,⟨a9.drew,a0,a3,oM⟩,zD⟩
  refine AJ false Z Z (A8 ac) Ac<|Aj<|Ak Z<|A6<|AA<|AA<|Ax<|A0<|fR Z<|A5<|B8 (S:=Nat) (fun k=>([(6,zI (k:Int)),(2,zP w.heap.size),(3,zP w1.heap.size)])) (fun k W=>AD w W∧BX W.heap w.heap.size [zI ipT,vtc,vtg,vtx]∧BX W.heap w1.heap.size [zI ipU,vuc,vug,vux]∧k≤T.grd.length) (fun k=>T.grd.length-k) 0 ⟨rfl,rfl,rfl,trivial⟩ ⟨a9,a0,a3,oM⟩ ?_
  clear a3 a0 a9 an
  rintro k ρ15 bl ⟨a5,a1,a4,au⟩
  have b3:w.heap.size≤bl.heap.size:=a5.size
  have be:=a1.lt
  have bf:=a4.lt
  refine A0<|fQ [0,0,2,0,0] Z<|Af 1 Z<|Ao (p:=zP w.heap.size) 2 DT Z Z Ac<|Ai (p:=Au (zP w.heap.size) 2) (.inr Z) vtg GM Z (a1.ldp (i:=2) sM) Ac<|AU (v:=vtg) Ky Z htgT.isSl Ac ?_
  by_cases ae:(k:Int)<(T.grd.length:Int)
  ·
    refine AJ true Z Z (A7 ae) Ac<|Aj<|Ah Z<|A4<|A0<|A5<|A0<|B7 _ [0,1,0,0,1,0,1,0,0,1,0] mixed (by kernel_rfl)<|Ao (p:=zP w.heap.size) 2 DT Z Z Ac<|Ai (p:=Au (zP w.heap.size) 2) (.inl Z) vtg GM Z (a1.ldp (i:=2) sM) Ac<|Af 1 Z ?_
    refine AH (v:=vtg) k Ky Ed Z Z htgT.isSl Z sD Ac ?_
    obtain⟨cs19,av,aw⟩:=htgT.get As Bt.zero (k:=k) sD
    obtain⟨rfl,bg⟩:=HN av
    refine AC (p:=AE vtg k 2) (.inl Z) [zI<|(T.grd.getD k Bt.zero).reg,.bool<|(T.grd.getD k Bt.zero).z] DV Z (fun bk a7=>aw bk<|AB.of_ext []<|a5.drew.trans a7) Z Ac<|Ao (p:=zP w1.heap.size) 2 DT Z Z Ac<|Ai (p:=Au (zP w1.heap.size) 2) (.inl Z) vug GM Z (a4.ldp (i:=2) sM) Ac<|Af 1 Z ?_
    refine AH (v:=vug) k Ky Ed Z Z htgU.isSl Z sD Ac ?_
    obtain⟨cs20,ax,ay⟩:=htgU.get As Bt.zero (k:=k) sD
    obtain⟨rfl,bh⟩:=HN ax
    refine AC (p:=AE vug k 2) (.inl Z) [zI<|(U.grd.getD k Bt.zero).reg,.bool<|(U.grd.getD k Bt.zero).z] DV Z (fun bk a7=>ay bk<|AB.of_ext []<|a5.drew.trans a7) Z Ac ?_
    have af:T.grd.getD k Bt.zero=U.grd.getD k Bt.zero:=by rw[hgd]
    exact ZB false (a:=T.grd.getD k Bt.zero) (b:=U.grd.getD k Bt.zero) (by kernel_rfl) Z Z Z Z ⟨(fun h=>by cases h),fun h=>absurd af h⟩ Ac<|Aj<|Ak Z<|A4<|Ad _ [0,0,0] Z<|Af 1 Z<|AS ((k+1:Nat):Int) Z Z (Bg oM sD) Ac<|Ae 1 Z ⟨k+1,_,rfl,zR,⟨a5.drew,a1,a4,oM⟩,zD⟩
  exact AJ false Z Z (A8 ae) Ac<|Aj<|Ak Z<|A6<|AA<|AA<|Ax<|fR Z<|A3<|Al [4] Z (.bool true) Z ⟨rfl,a5⟩
end
section
def I6 (c:Am):Value:=.agg (Mf c).toArray
theorem Ph {c c':Am}(h:I6 c=I6 c'):c=c':=by
 have h1:(Mf c).toArray=(Mf c').toArray:=Value.agg.inj h
 have h2:Mf c=Mf c':=by simpa using h1
 unfold Mf at h2
 injection h2 with a1 h2
 injection h2 with a2 h2
 injection h2 with a3 h2
 injection h2 with a4 _
 injection a1 with _ a1;injection a2 with _ a2;injection a3 with _ a3;injection a4 with _ a4
 cases c;cases c'
 simp only at a1 a2 a3 a4
 rw[a1,a2,a3,a4]
def Uw (H:Array Obj)(g:Nat)(ks:List Am):Prop :=
 ∃es clock,H[g]? = some (.map es clock)∧es.toList.map (·.key)=ks.map I6∧es.toList.map (·.val)=(Og ks.length).map (Value.int .i64)∧(∀c∈ks,GE c)
def ZH:Bs (List Am):=fun H v ks F=>∃g,v=.map (some g)∧F=[g]∧Uw H g ks
theorem AW:BZ ZH where
 cells:=by rintro H v xs F ⟨g,rfl,_⟩;rfl
 one:=by rintro H v xs F ⟨g,rfl,_⟩;rfl
 lt:=by
  rintro H v xs F ⟨g,rfl,rfl,es,clock,h,_⟩ b hb
  rw[Ab hb];exact getElem?_lt h
 stable:=by
  rintro H H' v xs F ⟨g,rfl,rfl,es,k,h1,h2⟩ hb
  exact⟨g,rfl,rfl,es,k,by rw[hb g (by simp)];exact h1,h2⟩
section
variable {P:Program} {w:World} {g:Nat} {ks:List Am} {t k e:TypeId} {c:Am}
theorem Ux (ht:P.underlying t=some (.map k e))(K:Maps.Keyed P k)(hK:∀c,GE c→∃l,keyOf P k (I6 c)=some l)(h:Uw w.heap g ks)(hc:GE c)(hn:c∉ks) :
  ∃w':World,(Instr.mapUpdate t (.map (some g)) (I6 c) (.int .i64 ((ks.length:Nat):Int))).run P w=.ok () w'∧AB [g] w w'∧w'.heap.size=w.heap.size∧Uw w'.heap g (ks++[c]):=by
 obtain⟨es,clock,hb,h2,h3,h4⟩:=h
 obtain⟨l,hkey⟩:=hK c hc
 have hall:∀x∈es.toList,∃l,keyOf P k x.key=some l:=fun x hx=>by
  have hm:x.key∈es.toList.map (·.key):=List.mem_map.2 ⟨x,hx,rfl⟩
  rw[h2]at hm
  obtain⟨y,hy,e⟩:=List.mem_map.1 hm
  rw[← e];exact hK y (h4 y hy)
 rcases K.find w hkey es.toList hall with⟨f1,f2⟩|⟨j,e0,f1,f2,f3⟩
 ·refine⟨ChangeMaps.setBlock w g (.map (es.push ⟨I6 c,.int .i64 ((ks.length:Nat):Int),clock⟩) (clock+1)),?_,VG hb _,by simp[ChangeMaps.setBlock],es.push ⟨I6 c,.int .i64 ((ks.length:Nat):Int),clock⟩,clock+1,ChangeMaps.heap_setBlock_same hb _,by simp[h2],?_,fun x hx=>?_⟩
  ·simp[Instr.mapUpdate,run_underlying ht,MapKept.run_getObj_map hb,K.check w false hkey,f1,MapKept.run_setObj_map _ hb,Result.andThen,ChangeMaps.setBlock]
  ·rw[z4,zd,Er];simp[h3]
  ·rcases zi.1 hx with hx|hx
   ·exact h4 x hx
   ·rw[Ab hx];exact hc
 ·exfalso
  have:e0.key∈es.toList.map (·.key):=List.mem_map.2 ⟨e0,List.mem_of_getElem? f2,rfl⟩
  rw[h2,f3]at this
  obtain⟨y,hy,e⟩:=List.mem_map.1 this
  exact hn (by rw[← Ph e];exact hy)
theorem N7 (ht:P.underlying t=some (.map k e))(K:Maps.Keyed P k)(hK:∀c,GE c→∃l,keyOf P k (I6 c)=some l)(hz:∀u:World,(zeroValue e).run P u=.ok (.int .i64 0) u)(h:Uw w.heap g ks)(hc:GE c)(hd:ks.Nodup) :
  (c∉ks→(Instr.lookup t (.map (some g)) (I6 c) true).run P w=.ok (.tuple #[.int .i64 0,.bool false]) w)∧∀i,i<ks.length→ks.getD i Am.zero=c→(Instr.lookup t (.map (some g)) (I6 c) true).run P w=.ok (.tuple #[.int .i64 ((i:Nat):Int),.bool true]) w:=by
 obtain⟨es,clock,hb,h2,h3,h4⟩:=h
 obtain⟨l,hkey⟩:=hK c hc
 have hall:∀x∈es.toList,∃l,keyOf P k x.key=some l:=fun x hx=>by
  have hm:x.key∈es.toList.map (·.key):=List.mem_map.2 ⟨x,hx,rfl⟩
  rw[h2]at hm
  obtain⟨y,hy,e⟩:=List.mem_map.1 hm
  rw[← e];exact hK y (h4 y hy)
 have hlk:es.toList.length=ks.length:=by have:=congrArg List.length h2;simpa using this
 rcases K.find w hkey es.toList hall with⟨f1,f2⟩|⟨j,e0,f1,f2,f3⟩
 ·refine⟨fun _=>by simp[Instr.lookup,run_underlying ht,MapKept.run_getObj_map hb,K.check w _ hkey,f1,hz,Result.andThen],fun i hi he=>?_⟩
  exfalso
  have:I6 c∈es.toList.map (·.key):=by rw[h2];exact List.mem_map.2 ⟨ks.getD i Am.zero,Mm _ hi,by rw[he]⟩
  obtain⟨x,hx,e⟩:=List.mem_map.1 this
  exact f2 x hx e
 ·obtain⟨hj,hje⟩:=List.getElem?_eq_some_iff.1 f2
  have hkj:ks.getD j Am.zero=c:=by
   have h5:=congrArg (fun l=>l[j]?) h2
   simp only[List.getElem?_map,f2,Option.map_some]at h5
   have hj':j<ks.length:=by omega
   rw[List.getElem?_eq_getElem hj',Option.map_some]at h5
   have h6:=Option.some.inj h5
   rw[f3]at h6
   have:=Ph h6
   rw[this];simp[hj']
  have hvj:e0.val=.int .i64 ((j:Nat):Int):=by
   have h5:=congrArg (fun l=>l[j]?) h3
   simp only[List.getElem?_map,f2,Option.map_some]at h5
   have hj':j<(Og ks.length).length:=by rw[JE];omega
   rw[List.getElem?_eq_getElem hj',Option.map_some]at h5
   have h6:=Option.some.inj h5
   rw[h6]
   have:=K7 (n:=ks.length) (k:=j) zO
   rw[← this,List.getD_eq_getElem?_getD,List.getElem?_eq_getElem hj'];rfl
  refine⟨fun hn=>absurd (Mm Am.zero (show j<ks.length by omega)) (by rw[hkj];exact hn),fun i hi he=>?_⟩
  have hij:i=j:=(LE Am.zero).1 hd i j hi zO (by rw[he,hkj])
  subst hij
  simp[Instr.lookup,run_underlying ht,MapKept.run_getObj_map hb,K.check w _ hkey,f1,hvj,Result.andThen]
end
theorem Pi {P:Program}{e:TypeId}{z:Value}{b:Nat}(h:TI P e 1 z b):∀u:World,(zeroValue e).run P u=.ok z u:=fun u=>by
 obtain⟨inf,h1,h2,_⟩:=h.get
 simp[zeroValue,typeInfo,h1,h2]
section ops
variable {P:Program} {ops:Array Oper} {w0:World} {Q:Act→World→Prop} {os:List Oper} {ks:List Nat} {N:Nat} {ρ:Nat→Value} {w:World}
 {d:Nat} {ty:TypeId} {pos:String} {aft:Array Edge} {gd:Option (Nat×Bool)} {t k e e1 e2:TypeId} {B U p q:Nat} {v vt vm:Value} {cs zsq:List Am} {to:List Int} {c:Am}
theorem ZI (hu:Up ops N ρ ⟨some d,.makeMap t none,ty,pos,aft,gd⟩)
  (h:∀v w1,AD w w1→w1.heap.size=w.heap.size+1→Fr ZH w.heap.size w1.heap.size w1.heap v []→LW P ops w0 Q os ks (mk N (CI ρ d v)) w1) :
  LW P ops w0 Q (⟨some d,.makeMap t none,ty,pos,aft,gd⟩::os) (3::ks) (mk N ρ) w:=by
 have hrun:(execOp (Br N ρ) ⟨some d,.makeMap t none,ty,pos,aft,gd⟩).run P w=.ok (.value (.map (some w.heap.size))) (w.alloc (.map #[] 0)):=by
  simp only[execOp,Option.map_none,Sem.run_bind,run_makeMap,Result.andThen_ok,Sem.run_pure]
 exact Ji rfl hu _ _ hrun (BA _ _)<|h _ _ (BA _ _) (by simp) ⟨[w.heap.size],⟨_,rfl,rfl,#[],0,heap_alloc_new _ _,rfl,rfl,fun x hx=>(by cases hx)⟩,by simp,fun b hb=>by rw[Ab hb];simp⟩
theorem JN {x y:Operand}(ht:P.underlying t=some (.map k e))(K:Maps.Keyed P k)(hK:∀c,GE c→∃l,keyOf P k (I6 c)=some l)(hz:∀u:World,(zeroValue e).run P u=.ok (.int .i64 0) u)(hx:Br N ρ x=vm)(hy:Br N ρ y=I6 c)(hm:Fr ZH B U w.heap vm zsq)(hc:GE c)(hd:zsq.Nodup)(hl:zsq.length≤1000000)
  (hu:Up ops N ρ ⟨some d,.lookup t x y true,ty,pos,aft,gd⟩)
  (h:∀(r:Int) (b:Bool),(0≤r∧r≤1000000)→((!b)=false→(0≤r∧r<((zsq.length:Nat):Int))∧zsq.getD r.toNat Am.zero=c)→((!b)=true→c∉zsq)→LW P ops w0 Q os ks (mk N (CI ρ d (.tuple #[.int .i64 r,.bool b]))) w) :
  LW P ops w0 Q (⟨some d,.lookup t x y true,ty,pos,aft,gd⟩::os) (2::ks) (mk N ρ) w:=by
 obtain⟨F,⟨g,rfl,rfl,hM⟩,hn,hb⟩:=hm
 have hst:∀w':World,AD w w'→Uw w'.heap g zsq:=fun w' hw=>by
  obtain⟨es,clock,h1,h2⟩:=hM
  exact⟨es,clock,by rw[hw.heap (getElem?_lt h1)];exact h1,h2⟩
 by_cases hmem:c∈zsq
 ·obtain⟨i,hi,he⟩:=NL Am.zero hmem
  refine Cr (by decide) rfl hu (.tuple #[.int .i64 ((i:Nat):Int),.bool true]) (fun w' hcl=>?_) (h _ _ zO (fun _=>⟨zO,by rw[Int.toNat_natCast];exact he⟩) fun h=>by cases h)
  have hcl:AD w w':=hcl
  simp only[execOp,hx,hy,Sem.run_bind,(N7 ht K hK hz (hst w' hcl) hc hd).2 i hi he,Result.andThen_ok,Sem.run_pure]
 ·refine Cr (by decide) rfl hu (.tuple #[.int .i64 0,.bool false]) (fun w' hcl=>?_) (h _ _ zO (fun h=>by cases h) fun _=>hmem)
  have hcl:AD w w':=hcl
  simp only[execOp,hx,hy,Sem.run_bind,(N7 ht K hK hz (hst w' hcl) hc hd).1 hmem,Result.andThen_ok,Sem.run_pure]
theorem Pj {x y z:Operand}{n:Int}(ht:P.underlying t=some (.map k e))(K:Maps.Keyed P k)(hK:∀c,GE c→∃l,keyOf P k (I6 c)=some l)(hx:Br N ρ x=vm)(hy:Br N ρ y=I6 c)(hzv:Br N ρ z=.int .i64 n)(hnn:n=((zsq.length:Nat):Int))(h:Fr (M9 ZH vt vm p q e1 e2) B U w.heap v (cs,to,zsq))(hc:GE c)(hnot:c∉zsq)
  (hu:Up ops N ρ ⟨none,.mapUpdate t x y z,ty,pos,aft,gd⟩)
  (hk:∀w1 F,AB F w w1→w1.heap.size=w.heap.size→(∀c∈F,(B≤c∧c<U)∧(c<p∨q≤c))→Fr (M9 ZH vt vm p q e1 e2) B U w1.heap v (cs,to,zsq++[c])→LW P ops w0 Q os ks (mk N ρ) w1) :
  LW P ops w0 Q (⟨none,.mapUpdate t x y z,ty,pos,aft,gd⟩::os) (4::ks) (mk N ρ) w:=by
 subst hnn
 obtain⟨F,⟨F1,F2,F3,rfl,h1,h2,⟨g,rfl,rfl,hM⟩,h5⟩,hnd,hb⟩:=h
 have n1:=List.nodup_append.1 hnd
 have n2:=List.nodup_append.1 n1.2.1
 obtain⟨w1,r1,r2,r3,r4⟩:=Ux ht K hK hM hc hnot
 have hrun:(execOp (Br N ρ) ⟨none,.mapUpdate t x y z,ty,pos,aft,gd⟩).run P w=.ok .skip w1:=by
  simp only[execOp,hx,hy,hzv,Sem.run_bind,r1,Result.andThen_ok,Sem.run_pure]
 refine Oi rfl hu _ hrun<|hk w1 [g] r2 r3 (fun c hc=>by rw[Ab hc];exact⟨hb g (by simp),h5 g (by simp)⟩) ⟨F1++(F2++[g]),⟨F1,F2,[g],rfl,(An Ap).stable h1 fun c hc=>r2.block c ((An Ap).lt h1 c hc) fun hm=>n1.2.2 c hc c (by simp[Ab hm]) rfl,(Bc AN).stable h2 fun c hc=>r2.block c ((Bc AN).lt h2 c hc) fun hm=>n2.2.2 c hc c hm rfl,⟨g,rfl,rfl,r4⟩,h5⟩,hnd,hb⟩
end ops
end
section
set_option maxHeartbeats 4000000
set_option maxRecDepth 100000
attribute [local irreducible] LW
theorem O9 {p:Prop}(h:p:=by first|exact ZC (by assumption) (by assumption)|exact ZD (by assumption) (by assumption)|exact ZE (by assumption)|(exfalso;have h9:=Uu (by assumption);omega)):p:=h
theorem Oa {p:Prop}(h:p:=by intro u hu;simp only[ze,z2,or_false]at hu;rcases hu with rfl|rfl|rfl|rfl <;> first|exact⟨rfl,rfl⟩):p:=h
theorem Ee (w:World)(ni k:Nat)(c:Am)(vt:Value)(to:Sr)(hc:GE c)(hto:Rd (Bl rI) w.heap vt to)(hin:C3 ni k c)(htl:k≤to.length) :
    Calls Tryz.prog 120 #[(.agg #[(zI c.op),(zI c.a),(zI c.b),(zI c.num)]),vt] w (fun e w'=>e=.returned (.agg #[zI (AV to c).op,zI (AV to c).a,zI (AV to c).b,zI (AV to c).num])∧AD w w'∧GE (AV to c)):=by
  refine Aw [.agg #[zI c.op,zI c.a,zI c.b,zI c.num],vt] 24 Tryz.func120 Z Z sM ?_
  have b4:AD w w:=AD.refl w
  have bv:=hto.lenle
  have hri:=ZF hto
  refine fQ [3,3] Z (BC (cs:=#[zI c.op,zI c.a,zI c.b,zI c.num]) Z Ac fun w1 av bk aj=>?_)
  have b5:=av.size
  have b6:=b4.trans av
  replace aj:BX w1.heap w.heap.size [zI c.op,zI c.a,zI c.b,zI c.num]:=aj
  have bl:=aj.lt
  refine B9 (z:=.agg #[zI 0,zI 0,zI 0,zI 0]) NS Ac fun w2 ak bm ae=>?_
  have b7:=ak.size
  have a3:=b6.trans ak
  have a0:=aj.ext ak
  replace ae:BX w2.heap w1.heap.size [zI 0,zI 0,zI 0,zI 0]:=ae
  refine Aj<|A0<|fQ [0,2,0] Z<|Ao (p:=zP w.heap.size) 0 DU Z Z Ac<|Ai (p:=Au (zP w.heap.size) 0) (.inr Z) (zI c.op) AG Z (a0.ldp (i:=0) sM) Ac ?_
  by_cases aw:((3:Nat):Int)≤c.op
  ·
    refine DO true Z Z (A7 aw) Ac<|Aj<|Ah Z<|Ad _ [0,0,2,0,2,0,4] Z ?_
    have hia:0≤c.a∧c.a<(k:Int):=by unfold C3 at hin;omega
    refine Af 1 Z<|Ao (p:=zP w.heap.size) 1 BW Z Z Ac<|Ai (p:=Au (zP w.heap.size) 1) (.inr Z) (zI c.a) AG Z (a0.ldp (i:=1) sM) Ac<|AH (v:=vt) ((c.a).toNat) Bu BL Z Z hto.isSl oM sD Ac ?_
    refine Ai (p:=AE vt ((c.a).toNat) 1) (.inr Z) (zI<|to.getD ((c.a).toNat) 0) AG Z (Bk a3 (hto.getI sD).1) Ac<|Ao (p:=zP w.heap.size) 1 BW Z Z Ac (Bn (k:=1) (w:=w2) GS Z Z ⟨rfl,rfl⟩ a0 sM Ac fun w5 al bn a4=>?_)
    replace a4:BX w5.heap w.heap.size [zI c.op,zI (to.getD ((c.a).toNat) 0),zI c.b,zI c.num]:=a4
    have b8:w2.heap.size≤w5.heap.size:=al.size
    have af:AD w w5:=al.below a3 (fun _ h=>zE h) a3.size
    have ax:=ae.chg al (zB ·)
    refine Aj<|A0<|fQ [0,2,0] Z<|Ao (p:=zP w.heap.size) 0 DU Z Z Ac<|Ai (p:=Au (zP w.heap.size) 0) (.inr Z) (zI c.op) AG Z (a4.ldp (i:=0) sM) Ac<|AF 72 [] [] [zI c.op,zI ((3:Nat):Int),zI ((6:Nat):Int)] Z Z EA Ac (.bool (decide (((3:Nat):Int)≤c.op) && decide (c.op≤((6:Nat):Int)))) (fun wq=>B5 wq _ _ _ hc.1 oM oM)<|Aj ?_
    cases ay:(decide (((3:Nat):Int)≤c.op) && decide (c.op≤((6:Nat):Int)))
    ·
      refine Ak (by first|rfl|exact zW ay)<|A4<|fQ [2,4] Z<|AC (p:=zP w.heap.size) (.inr Z) [zI c.op,zI<|to.getD ((c.a).toNat) 0,zI c.b,zI c.num] Bx Z (fun br a5=>LD.of_box<|BX.ext (w:=w5) a4 a5) Z Ac (Bh (vs:=[zI c.op,zI<|to.getD ((c.a).toNat) 0,zI c.b,zI c.num]) Bx Z Z Oa ax Z Z Ac fun w9 am bo an=>?_)
      replace an:BX w9.heap w1.heap.size [zI c.op,zI (to.getD ((c.a).toNat) 0),zI c.b,zI c.num]:=an
      have b9:w5.heap.size≤w9.heap.size:=am.size
      have ba:AD w w9:=am.below af (fun _ h=>zE h) af.size
      have bb:=a4.chg am (zB ·)
      exact Aj<|A3<|BK (cs:=[zI c.op,zI<|to.getD ((c.a).toNat) 0,zI c.b,zI c.num]) Z Bx Z an Z ⟨O9,ba,(by exact L2 hc hri)⟩
    refine Ah (by first|rfl|exact zW ay)<|Ad _ [0,0,2,0,2,0,4] Z ?_
    have hib:=hin.i2<|Uu (by assumption)
    refine Af 1 Z<|Ao (p:=zP w.heap.size) 2 BU Z Z Ac<|Ai (p:=Au (zP w.heap.size) 2) (.inr Z) (zI c.b) AG Z (a4.ldp (i:=2) sM) Ac<|AH (v:=vt) ((c.b).toNat) Bu BL Z Z hto.isSl oM sD Ac ?_
    refine Ai (p:=AE vt ((c.b).toNat) 1) (.inr Z) (zI<|to.getD ((c.b).toNat) 0) AG Z (Bk af (hto.getI sD).1) Ac<|Ao (p:=zP w.heap.size) 2 BU Z Z Ac (Bn (k:=2) (w:=w5) GS Z Z ⟨rfl,rfl⟩ a4 sM Ac fun bp a6 bc a1=>?_)
    replace a1:BX bp.heap w.heap.size [zI c.op,zI (to.getD ((c.a).toNat) 0),zI (to.getD ((c.b).toNat) 0),zI c.num]:=a1
    have az:w5.heap.size≤bp.heap.size:=a6.size
    have ag:AD w bp:=a6.below af (fun _ h=>zE h) af.size
    have ao:=ax.chg a6 (zB ·)
    refine Aj<|fQ [2,4] Z<|AC (p:=zP w.heap.size) (.inr Z) [zI c.op,zI<|to.getD ((c.a).toNat) 0,zI<|to.getD ((c.b).toNat) 0,zI c.num] Bx Z (fun br a5=>LD.of_box<|BX.ext (w:=bp) a1 a5) Z Ac (Bh (vs:=[zI c.op,zI<|to.getD ((c.a).toNat) 0,zI<|to.getD ((c.b).toNat) 0,zI c.num]) Bx Z Z Oa ao Z Z Ac fun bs a7 bd a8=>?_)
    replace a8:BX bs.heap w1.heap.size [zI c.op,zI (to.getD ((c.a).toNat) 0),zI (to.getD ((c.b).toNat) 0),zI c.num]:=a8
    have b0:bp.heap.size≤bs.heap.size:=a7.size
    have ap:AD w bs:=a7.below ag (fun _ h=>zE h) ag.size
    have be:=a1.chg a7 (zB ·)
    exact Aj<|A3<|BK (cs:=[zI c.op,zI<|to.getD ((c.a).toNat) 0,zI<|to.getD ((c.b).toNat) 0,zI c.num]) Z Bx Z a8 Z ⟨O9,ap,(by exact L2 hc hri)⟩
  refine DO false Z Z (A8 aw) Ac<|Aj<|Ak Z<|A4<|A0<|fQ [0,2,0] Z<|Ao (p:=zP w.heap.size) 0 DU Z Z Ac<|Ai (p:=Au (zP w.heap.size) 0) (.inr Z) (zI c.op) AG Z (a0.ldp (i:=0) sM) Ac<|AF 72 [] [] [zI c.op,zI ((3:Nat):Int),zI ((6:Nat):Int)] Z Z EA Ac (.bool (decide (((3:Nat):Int)≤c.op) && decide (c.op≤((6:Nat):Int)))) (fun wq=>B5 wq _ _ _ hc.1 oM oM)<|Aj ?_
  cases ah:(decide (((3:Nat):Int)≤c.op) && decide (c.op≤((6:Nat):Int)))
  ·
    refine Ak (by first|rfl|exact zW ah)<|A4<|fQ [2,4] Z<|AC (p:=zP w.heap.size) (.inr Z) [zI c.op,zI c.a,zI c.b,zI c.num] Bx Z (fun br a5=>LD.of_box<|BX.ext (w:=w2) a0 a5) Z Ac (Bh (vs:=[zI c.op,zI c.a,zI c.b,zI c.num]) Bx Z Z Oa ae Z Z Ac fun bt a9 bf aa=>?_)
    replace aa:BX bt.heap w1.heap.size [zI c.op,zI c.a,zI c.b,zI c.num]:=aa
    have b1:w2.heap.size≤bt.heap.size:=a9.size
    have aq:AD w bt:=a9.below a3 (fun _ h=>zE h) a3.size
    have bg:=a0.chg a9 (zB ·)
    exact Aj<|A3<|BK (cs:=[zI c.op,zI c.a,zI c.b,zI c.num]) Z Bx Z aa Z ⟨O9,aq,(by exact L2 hc hri)⟩
  refine Ah (by first|rfl|exact zW ah)<|Ad _ [0,0,2,0,2,0,4] Z ?_
  have hib:=hin.i2<|Uu (by assumption)
  refine Af 1 Z<|Ao (p:=zP w.heap.size) 2 BU Z Z Ac<|Ai (p:=Au (zP w.heap.size) 2) (.inr Z) (zI c.b) AG Z (a0.ldp (i:=2) sM) Ac<|AH (v:=vt) ((c.b).toNat) Bu BL Z Z hto.isSl oM sD Ac ?_
  refine Ai (p:=AE vt ((c.b).toNat) 1) (.inr Z) (zI<|to.getD ((c.b).toNat) 0) AG Z (Bk a3 (hto.getI sD).1) Ac<|Ao (p:=zP w.heap.size) 2 BU Z Z Ac (Bn (k:=2) (w:=w2) GS Z Z ⟨rfl,rfl⟩ a0 sM Ac fun bq ab bh a2=>?_)
  replace a2:BX bq.heap w.heap.size [zI c.op,zI c.a,zI (to.getD ((c.b).toNat) 0),zI c.num]:=a2
  have b2:w2.heap.size≤bq.heap.size:=ab.size
  have ai:AD w bq:=ab.below a3 (fun _ h=>zE h) a3.size
  have ar:=ae.chg ab (zB ·)
  refine Aj<|fQ [2,4] Z<|AC (p:=zP w.heap.size) (.inr Z) [zI c.op,zI c.a,zI<|to.getD ((c.b).toNat) 0,zI c.num] Bx Z (fun br a5=>LD.of_box<|BX.ext (w:=bq) a2 a5) Z Ac (Bh (vs:=[zI c.op,zI c.a,zI<|to.getD ((c.b).toNat) 0,zI c.num]) Bx Z Z Oa ar Z Z Ac fun bu ac bi ad=>?_)
  replace ad:BX bu.heap w1.heap.size [zI c.op,zI c.a,zI (to.getD ((c.b).toNat) 0),zI c.num]:=ad
  have b3:bq.heap.size≤bu.heap.size:=ac.size
  have au:AD w bu:=ac.below ai (fun _ h=>zE h) ai.size
  have bj:=a2.chg ac (zB ·)
  exact Aj<|A3<|BK (cs:=[zI c.op,zI c.a,zI<|to.getD ((c.b).toNat) 0,zI c.num]) Z Bx Z ad Z ⟨O9,au,(by exact L2 hc hri)⟩
theorem Dy (w:World)(ipT:Int)(vtc vtg vtx:Value)(T:Tp)(oT:Sr)(vk:Value)(nk:Nat)(vo:Value)(to:Sr)(_hipT:Bd ipT)(htcT:RN [] (CK 4 Gs) w.heap vtc T.code)(htgT:RN [] (CK 2 FV) w.heap vtg T.grd)(htoT:RN [] (Bl rI) w.heap vtx oT)(hvk:Fu vk nk)(hto:Rd (Bl rI) w.heap vo to)(hgr:∀k,k<T.grd.length→0≤(T.grd.getD k Bt.zero).reg∧(T.grd.getD k Bt.zero).reg<(to.length:Int))(hor:∀k,k<oT.length→0≤oT.getD k 0∧oT.getD k 0<(to.length:Int))(hgl:T.grd.length≤3200)(hol:oT.length≤12) :
    Calls Tryz.prog 119 #[(.agg #[(zI ipT),vtc,vtg,vtx]),vk,vo] w (fun e w'=>∃vG vO,e=.returned (.agg #[zI ipT,vk,vG,vO])∧AD w w'∧Fr (DB 2 FV 107) w.heap.size w'.heap.size w'.heap vG (T.grd.map (G7 to))∧Fr (BD rI 2) w.heap.size w'.heap.size w'.heap vO (oT.map (HP to))):=by
  refine Aw [.agg #[zI ipT,vtc,vtg,vtx],vk,vo] 55 Tryz.func119 Z Z sM ?_
  have cv:AD w w:=AD.refl w
  have hl_vtx:=htoT.lenL
  unfold maxLen at hl_vtx
  have ej:=hto.lenle
  refine fQ [3,3] Z (BC (cs:=#[zI ipT,vtc,vtg,vtx]) Z Ac fun w1 br dh bo=>?_)
  have bs:=br.size
  have cw:=cv.trans br
  replace bo:BX w1.heap w.heap.size [zI ipT,vtc,vtg,vtx]:=bo
  have e7:=bo.lt
  refine B9 (z:=.agg #[zI 0,zN,zN,zN]) Kb Ac fun w2 bp di bq=>?_
  have bt:=bp.size
  have cx:=cw.trans bp
  have ap:=bo.ext bp
  replace bq:BX w2.heap w1.heap.size [zI 0,zN,zN,zN]:=bq
  refine Aj<|fQ [0,2,0,0,3,4] Z<|Ao (p:=zP w.heap.size) 0 IW Z Z Ac<|Ai (p:=Au (zP w.heap.size) 0) (.inr Z) (zI ipT) AG Z (ap.ldp (i:=0) sM) Ac<|Af 1 Z ?_
  have bu:∀(vk:Value) (ec:Nat) (h4_0:Fu vk ec) (wq:World),(Instr.build 39 #[(0,zI ipT),(1,vk)]).run Tryz.prog wq=.ok (.agg #[zI ipT,vk,zN,zN]) wq:=by intro vk ec h4_0 wq;obtain⟨a4_0,eo,rfl,_⟩:=h4_0;kernel_rfl
  refine Ch (ps:=#[(0,zI ipT),(1,vk)]) (.agg #[zI ipT,vk,zN,zN]) (by simp only[zc,zf,zh];rfl) (fun wq=>bu vk _ hvk wq) Ac ?_
  have e8:=ap.lt
  have e9:=bq.lt
  refine B9 (z:=.agg #[zI 0,zN,zN,zN]) Kb Ac fun w5 b6 dj bv=>?_
  have bw:=b6.size
  have bx:=cx.trans b6
  have b7:=ap.ext b6
  have b8:=bq.ext b6
  replace bv:BX w5.heap w2.heap.size [zI 0,zN,zN,zN]:=bv
  refine Bh (vs:=[zI ipT,vk,zN,zN]) BE Z Z (by intro u hu;simp only[ze,z2,or_false]at hu;rcases hu with rfl|rfl|rfl|rfl <;> first|exact⟨rfl,rfl⟩|exact AT hvk) bv Z Z Ac fun w8 b9 dk bz=>?_
  replace bz:BX w8.heap w2.heap.size [zI ipT,vk,zN,zN]:=bz
  have dl:w5.heap.size≤w8.heap.size:=b9.size
  have dm:AD w w8:=b9.below bx (fun _ h=>zE h) bx.size
  have c0:=b7.chg b9 (zB ·)
  have ba:=b8.chg b9 (zB ·)
  refine Aj<|A0<|fQ [0,2,0,0] Z<|Ao (p:=zP w.heap.size) 2 DT Z Z Ac<|Ai (p:=Au (zP w.heap.size) 2) (.inr Z) vtg GM Z (c0.ldp (i:=2) sM) Ac<|AU (v:=vtg) Ky Z htgT.isSl Ac<|Ae 1 Z<|A5 ?_
  refine B8 (S:=Nat×Value) (fun⟨i,vq⟩=>([(19,zI (i:Int)),(2,vo),(3,zP w.heap.size),(6,zP w1.heap.size),(7,zP w2.heap.size),(17,vtg),(18,zI (T.grd.length:Int))])) (fun⟨i,vq⟩ W=>AD w W∧Fr (DB 2 FV 107) w8.heap.size W.heap.size W.heap vq ((T.grd.take i).map<|G7 to)∧BX W.heap w.heap.size [zI ipT,vtc,vtg,vtx]∧BX W.heap w1.heap.size [zI 0,zN,zN,zN]∧BX W.heap w2.heap.size [zI ipT,vk,vq,zN]∧i≤T.grd.length∧w.heap.size<w8.heap.size∧w1.heap.size<w8.heap.size∧w2.heap.size<w8.heap.size∧w8.heap.size≤W.heap.size) (fun⟨i,vq⟩=>T.grd.length-i) (0,zN) ⟨rfl,rfl,rfl,rfl,rfl,rfl,rfl,trivial⟩ ⟨dm,(H3 _ 0 _).up<|An As,c0,ba,bz,oM,oM,oM,oM,oM⟩ ?_
  clear cv dh br bs cw di bp bt cx dj b6 bw bx dk b9 c0 ba
  rintro⟨i,vq⟩ ρ14 ea ⟨aq,a6,a0,a1,a2,c1,cy,cz,d0,d1⟩
  have d2:w.heap.size≤ea.heap.size:=aq.size
  have dn:=a0.lt
  have dp:=a1.lt
  have dq:=a2.lt
  refine fQ [0] Z ?_
  by_cases bb:(i:Int)<(T.grd.length:Int)
  ·
    refine AJ true Z Z (A7 bb) Ac<|Aj<|A0<|Ah Z<|A4<|A0<|A5<|fQ [0,2,3,4] Z<|AH (v:=vtg) i Ky Ed Z Z htgT.isSl Z sD Ac ?_
    obtain⟨cs20,c2,c3⟩:=htgT.get As Bt.zero (k:=i) sD
    obtain⟨rfl,dr⟩:=HN c2
    refine AC (p:=AE vtg i 2) (.inr Z) [zI<|(T.grd.getD i Bt.zero).reg,.bool<|(T.grd.getD i Bt.zero).z] DV Z (fun ek c4=>c3 ek<|AB.of_ext []<|aq.trans c4) Z Ac ?_
    have ds:=a0.lt
    have dt:=a1.lt
    have du:=a2.lt
    refine B9 (z:=.agg #[zI 0,.bool false]) Rv Ac fun el aa dv b2=>?_
    have d3:=aa.size
    have bc:=aq.trans aa
    have ab:=a6.ext (An As) aa
    have ac:=a0.ext aa
    have ad:=a1.ext aa
    have ae:=a2.ext aa
    replace b2:BX el.heap ea.heap.size [zI 0,.bool false]:=b2
    refine Bh (vs:=[zI<|(T.grd.getD i Bt.zero).reg,.bool<|(T.grd.getD i Bt.zero).z]) DV Z Z (by intro u hu;simp only[ze,z2,or_false]at hu;rcases hu with rfl|rfl <;> first|exact⟨rfl,rfl⟩) b2 Z Z Ac fun ed af dw ar=>?_
    replace ar:BX ed.heap ea.heap.size [zI ((T.grd.getD i Bt.zero).reg),.bool ((T.grd.getD i Bt.zero).z)]:=ar
    have d4:el.heap.size≤ed.heap.size:=af.size
    have bd:AD w ed:=af.below bc (fun _ h=>zE h) bc.size
    have c5:=ab.chg (An As) af fun _ h=>zA h
    have c6:=ac.chg af (zB ·)
    have c7:=ad.chg af (zB ·)
    have be:=ae.chg af (zB ·)
    refine Aj<|B7 _ [0,1,0,0,1,0,1,0,1,0,3,4,0,4] mixed (by kernel_rfl) ?_
    have hgk:=hgr i oM
    refine Ao (p:=zP w2.heap.size) 2 DT Z Z Ac<|Ai (p:=Au (zP w2.heap.size) 2) (.inl Z) vq GM Z (be.ldp (i:=2) sM) Ac<|Af 1 Z<|Ao (p:=zP ea.heap.size) 0 KZ Z Z Ac<|Ai (p:=Au (zP ea.heap.size) 0) (.inl Z) (zI<|(T.grd.getD i Bt.zero).reg) AG Z (ar.ldp (i:=0) sM) Ac ?_
    refine AH (v:=vo) (((T.grd.getD i Bt.zero).reg).toNat) Bu BL Z Z hto.isSl oM sD Ac ?_
    refine Ai (p:=AE vo (((T.grd.getD i Bt.zero).reg).toNat) 1) (.inl Z) (zI<|to.getD (((T.grd.getD i Bt.zero).reg).toNat) 0) AG Z (Bk bd.drew (hto.getI sD).1) Ac<|Ao (p:=zP ea.heap.size) 1 Rw Z Z Ac<|Ai (p:=Au (zP ea.heap.size) 1) (.inl Z) (.bool<|(T.grd.getD i Bt.zero).z) PZ Z (ar.ldp (i:=1) sM) Ac ?_
    have bf:∀(wq:World),(Instr.build 107 #[(0,zI (to.getD (((T.grd.getD i Bt.zero).reg).toNat) 0)),(1,.bool ((T.grd.getD i Bt.zero).z))]).run Tryz.prog wq=.ok (.agg #[zI (to.getD (((T.grd.getD i Bt.zero).reg).toNat) 0),.bool ((T.grd.getD i Bt.zero).z)]) wq:=by intro wq;kernel_rfl
    refine Ch (ps:=#[(0,zI<|to.getD (((T.grd.getD i Bt.zero).reg).toNat) 0),(1,.bool<|(T.grd.getD i Bt.zero).z)]) (.agg #[zI<|to.getD (((T.grd.getD i Bt.zero).reg).toNat) 0,.bool<|(T.grd.getD i Bt.zero).z]) (by simp only[zc,zf,zh];rfl) (fun wq=>bf  wq) Ac ?_
    refine Ct (cs:=[zI<|to.getD (((T.grd.getD i Bt.zero).reg).toNat) 0,.bool<|(T.grd.getD i Bt.zero).z]) (y:=(⟨to.getD (((T.grd.getD i Bt.zero).reg).toNat) 0,(T.grd.getD i Bt.zero).z⟩:Bt)) (B:=ed.heap.size) (U:=ed.heap.size) As Ky Ed Z (by decide) Z (PF (x:=(⟨to.getD (((T.grd.getD i Bt.zero).reg).toNat) 0,(T.grd.getD i Bt.zero).z⟩:Bt)) (hto.getI sD).2) (A9 _) Ac fun ep er a4 dx c8=>?_
    replace a4:=a4.of_drew
    have d5:=a4.size
    have bg:=bd.trans a4
    have ax:=c5.ext (An As) a4
    have ay:=c6.ext a4
    have az:=c7.ext a4
    have b0:=be.ext a4
    have b1:=ar.ext a4
    refine HE (v:=vq) (a:=ep) As Ky Ed Z (by decide) Z Z ax oM c8 oM oM (by rw[zg,List.length_take];omega) (by rw[zg,List.length_take];unfold maxLen;omega) Ac fun em ee eu ag au bh=>?_
    have d6:er.heap.size≤ee.heap.size:=ag.size
    have bi:AD w ee:=ag.below bg (fun c hc=>zH<|au _ hc) bg.size
    have c9:=ay.chg ag fun hm=>zH<|au _ hm
    have ca:=az.chg ag fun hm=>zH<|au _ hm
    have cb:=b0.chg ag fun hm=>zH<|au _ hm
    have cc:=b1.chg ag fun hm=>zH<|au _ hm
    refine Ao (p:=zP w2.heap.size) 2 DT Z Z Ac (Bn (k:=2) (w:=ee) Zm Z Z (AT bh.isSlS) cb sM Ac fun eg ah dy b3=>?_)
    replace b3:BX eg.heap w2.heap.size [zI ipT,vk,em,zN]:=b3
    have d7:ee.heap.size≤eg.heap.size:=ah.size
    have cd:AD w eg:=ah.below bi (fun _ h=>zE h) bi.size
    have ce:=c9.chg ah (zB ·)
    have cf:=ca.chg ah (zB ·)
    have dz:=cc.chg ah (zB ·)
    have cg:=bh.chg (An As) ah fun _ h=>zA h
    exact Aj<|Ad _ [0,0] Z<|AS ((i+1:Nat):Int) Z Z (Bg oM sD) Ac<|Ae 1 Z ⟨(i+1,em),_,rfl,zR,⟨cd,(by rw[Em Bt.zero oM];exact cg.up (An As)),ce,cf,b3,oM,oM,oM,oM,oM⟩,zD⟩
  refine AJ false Z Z (A8 bb) Ac<|Aj<|A0<|Ak Z<|A6<|AA<|AA<|Ax<|A0<|fQ [0,2,0,0] Z<|Ao (p:=zP w.heap.size) 3 Es Z Z Ac<|Ai (p:=Au (zP w.heap.size) 3) (.inr Z) vtx BN Z (a0.ldp (i:=3) sM) Ac<|AU (v:=vtx) Bu Z htoT.slL Ac<|Ae 1 Z<|A5 ?_
  refine B8 (S:=Nat×Value) (fun⟨k,vp⟩=>([(40,zI (k:Int)),(2,vo),(6,zP w1.heap.size),(7,zP w2.heap.size),(38,vtx),(39,zI (oT.length:Int))])) (fun⟨k,vp⟩ W=>AD w W∧Fr (BD rI 2) ea.heap.size W.heap.size W.heap vp ((oT.take k).map<|HP to)∧Fr (DB 2 FV 107) w8.heap.size ea.heap.size W.heap vq ((T.grd.take i).map<|G7 to)∧BX W.heap w1.heap.size [zI 0,zN,zN,zN]∧BX W.heap w2.heap.size [zI ipT,vk,vq,vp]∧k≤oT.length∧w1.heap.size<ea.heap.size∧w2.heap.size<ea.heap.size∧ea.heap.size≤W.heap.size∧w8.heap.size≤W.heap.size) (fun⟨k,vp⟩=>oT.length-k) (0,zN) ⟨rfl,rfl,rfl,rfl,rfl,rfl,trivial⟩ ⟨aq,(Jj _ 0 _).up o1,a6,a1,a2,oM,oM,oM,oM,oM⟩ ?_
  clear a2 a1 a0 a6
  rintro⟨k,vp⟩ ρ44 eb ⟨ai,a7,a8,a9,a3,ch,d8,d9,da,db⟩
  have dc:w.heap.size≤eb.heap.size:=ai.size
  have e0:=a9.lt
  have e1:=a3.lt
  refine fQ [0] Z ?_
  by_cases bj:(k:Int)<(oT.length:Int)
  ·
    refine AJ true Z Z (A7 bj) Ac<|Aj<|A0<|Ah Z<|A4<|A0<|A5<|fQ [0,2,0] Z<|AH (v:=vtx) k Bu BL Z Z htoT.slL Z sD Ac ?_
    have ci:=RN.getI (w:=w) (k:=k) htoT sD
    refine Ai (p:=AE vtx k 1) (.inr Z) (zI<|oT.getD k 0) AG Z (ci.1 _<|AB.of_ext [] ai) Ac<|Ae 1 Z<|B7 _ [0,1,0,0,0,1,3,4,0,4] mixed (by kernel_rfl) ?_
    have hok:=hor k oM
    refine Ao (p:=zP w2.heap.size) 3 Es Z Z Ac<|Ai (p:=Au (zP w2.heap.size) 3) (.inl Z) vp BN Z (a3.ldp (i:=3) sM) Ac<|Af 2 Z<|AH (v:=vo) ((oT.getD k 0).toNat) Bu BL Z Z hto.isSl oM sD Ac ?_
    refine Ai (p:=AE vo ((oT.getD k 0).toNat) 1) (.inl Z) (zI<|to.getD ((oT.getD k 0).toNat) 0) AG Z (Bk ai.drew (hto.getI sD).1) Ac ?_
    refine BQ (u:=zI<|to.getD ((oT.getD k 0).toNat) 0) (B:=eb.heap.size) AN Bu BL Z Z (Jl eb.heap.size eb.heap.size _ _ (hto.getI sD).2) (A9 _) Ac fun es et a5 e2 bk=>?_
    replace a5:=a5.of_drew
    have dd:=a5.size
    have bl:=ai.trans a5
    have aj:=a7.ext (o1) a5
    have ak:=a8.ext (An As) a5
    have al:=a9.ext a5
    have am:=a3.ext a5
    refine FH (v:=vp) (a:=es) Bu BL Z Z Z aj oM bk.rd1 sD (by unfold maxLen;first|omega|assumption|(simp only[zb,z9,z4,z6,z5];omega)|(simp[zb,z9,z4,z6,z5];done)|(simp[zb,z9,z4,z6,z5];omega)) Ac fun en ef ew an av bm=>?_
    have bn:AD w ef:=an.below bl (fun c hc=>Aa aq.size (av c hc).1) bl.size
    have de:et.heap.size≤ef.heap.size:=an.size
    have cj:=ak.chg (An As) an fun c hc=>zH<|av c hc
    have ck:=al.chg an fun hm=>zH<|av _ hm
    have cl:=am.chg an fun hm=>zH<|av _ hm
    have cm:=bk.chg (o1) an fun c hc=>zH<|av c hc
    refine Ao (p:=zP w2.heap.size) 3 Es Z Z Ac (Bn (k:=3) (w:=ef) Pb Z Z (AT bm.isSl) cl sM Ac fun eh ao e3 b4=>?_)
    replace b4:BX eh.heap w2.heap.size [zI ipT,vk,vq,en]:=b4
    have df:ef.heap.size≤eh.heap.size:=ao.size
    have cn:AD w eh:=ao.below bn (fun _ h=>zE h) bn.size
    have co:=cj.chg (An As) ao fun _ h=>zA h
    have cp:=ck.chg ao (zB ·)
    have e4:=cm.chg (o1) ao fun _ h=>zA h
    have cq:=bm.chg (o1) ao fun _ h=>zA h
    exact Aj<|Ad _ [0,0] Z<|AS ((k+1:Nat):Int) Z Z (Bg oM sD) Ac<|Ae 1 Z ⟨(k+1,en),_,rfl,zR,⟨cn,(by rw[Em 0 oM];exact cq.up o1),co,cp,b4,oM,oM,oM,oM,oM⟩,zD⟩
  refine AJ false Z Z (A8 bj) Ac<|Aj<|A0<|Ak Z<|A6<|AA<|AA<|Ax<|fQ [2,4] Z<|AC (p:=zP w2.heap.size) (.inr Z) [zI ipT,vk,vq,vp] BE Z (fun ek c4=>LD.of_box<|BX.ext (w:=eb) a3 c4) Z Ac (Bh (vs:=[zI ipT,vk,vq,vp]) BE Z Z (by intro u hu;simp only[ze,z2,or_false]at hu;rcases hu with rfl|rfl|rfl|rfl <;> first|exact⟨rfl,rfl⟩|exact AT hvk|exact AT a8.isSlS|exact AT a7.isSl) a9 Z Z Ac fun ei aw e5 b5=>?_)
  replace b5:BX ei.heap w1.heap.size [zI ipT,vk,vq,vp]:=b5
  have dg:eb.heap.size≤ei.heap.size:=aw.size
  have cr:AD w ei:=aw.below ai (fun _ h=>zE h) ai.size
  have ct:=a7.chg (o1) aw fun _ h=>zA h
  have cu:=a8.chg (An As) aw fun _ h=>zA h
  have e6:=a3.chg aw (zB ·)
  exact Aj<|A3<|BK (cs:=[zI ipT,vk,vq,vp]) Z BE Z b5 Z ⟨vq,vp,rfl,cr,(by have h:=((cu.up<|An As).low (B':=w.heap.size) oM);rwa [za oM]at h),(by have h:=((ct.up o1).low (B':=w.heap.size) oM);rwa [za oM]at h)⟩
theorem Y7 {p:Prop}(h:p:=by have:=KS ((T.code.getD k Am.zero).op) (((BH (T.code.take k)).getD (((T.code.getD k Am.zero).a).toNat) Am.zero).num) (((BH (T.code.take k)).getD (((T.code.getD k Am.zero).b).toNat) Am.zero).num);split <;> omega):p:=h
theorem Uy {p:Prop}(h:p:=by intro u hu;simp only[ze,z2,or_false]at hu;rcases hu with rfl|rfl|rfl|rfl <;> first|exact⟨rfl,rfl⟩):p:=h
theorem N8 {p:Prop}(h:p:=by first|(simp[Ge,Gf];done)|simp[Mf]):p:=h
theorem Kt {p:Prop}(h:p:=by unfold maxLen;omega):p:=h
theorem Gc {p:Prop}(h:p:=by decide):p:=h
theorem Je (w:World)(ni:Nat)(ipT:Int)(vtc vtg vtx:Value)(T:Tp)(oT:Sr)(_hipT:Bd ipT)(htcT:RN [] (CK 4 Gs) w.heap vtc T.code)(htgT:RN [] (CK 2 FV) w.heap vtg T.grd)(htoT:RN [] (Bl rI) w.heap vtx oT)(hK:ND ni T oT) :
    Calls Tryz.prog 58 #[(.agg #[(zI ipT),vtc,vtg,vtx])] w (fun e w'=>∃(vC vG vO:Value),e=.returned (.agg #[zI ipT,vC,vG,vO])∧AD w w'∧Fr (DB 4 Gs 52) w.heap.size w'.heap.size w'.heap vC (BH T.code)∧Fr (DB 2 FV 107) w.heap.size w'.heap.size w'.heap vG T.grd∧Fr (BD rI 2) w.heap.size w'.heap.size w'.heap vO oT):=by
  refine Aw [.agg #[zI ipT,vtc,vtg,vtx]] 78 Tryz.func58 Z Z sM ?_
  have ib:AD w w:=AD.refl w
  have hl_vtx:=htoT.lenL
  unfold maxLen at hl_vtx
  have hcl:=hK.cl
  have l9:=hK.gl
  have hol:=hK.ol
  have hpos:=hK.pos
  refine fQ [3,3] Z (BC (cs:=#[zI ipT,vtc,vtg,vtx]) Z Ac fun w1 e9 ja e7=>?_)
  have ea:=e9.size
  have ic:=ib.trans e9
  replace e7:BX w1.heap w.heap.size [zI ipT,vtc,vtg,vtx]:=e7
  have ka:=e7.lt
  refine B9 (z:=.agg #[zI 0,zN,zN,zN]) Kb Ac fun w2 e8 jb eb=>?_
  have jc:=e8.size
  have jd:=ic.trans e8
  have db:=e7.ext e8
  replace eb:BX w2.heap w1.heap.size [zI 0,zN,zN,zN]:=eb
  refine Aj<|fQ [3,3,0,0] Z (Ls (α:=Am) Ap Dg BI Ac fun v4 w4 dc je id=>?_)
  have ec:=dc.size
  have ie:=jd.trans dc
  have dd:=db.ext dc
  have de:=eb.ext dc
  refine Dt (rI) AN Bu BL Ac fun v5 w5 da jf ig=>?_
  have ed:=da.size
  have ih:=ie.trans da
  have cu:=dd.ext da
  have df:=de.ext da
  have cv:=id.ext (An Ap) da
  refine Ae 2 Z<|A0<|fQ [0,2,0,0] Z ?_
  have ee:=O8 (B:=w2.heap.size) (U:=w5.heap.size) cv ig oM ⟨by first|omega|exact A9 _,by first|omega|exact A9 _,zO,zO⟩
  refine Ao (p:=zP w.heap.size) 1 Ck Z Z Ac<|Ai (p:=Au (zP w.heap.size) 1) (.inr Z) vtc Dx Z (cu.ldp (i:=1) sM) Ac<|AU (v:=vtc) Dg Z htcT.isSl Ac<|Ae 1 Z<|A5 ?_
  refine B8 (S:=Nat×Value×Value) (fun⟨k,vo,vt⟩=>([(3,vo),(4,vt),(14,zI (k:Int)),(1,zP w.heap.size),(2,zP w1.heap.size),(12,vtc),(13,zI (T.code.length:Int))])) (fun⟨k,vo,vt⟩ W=>AD w W∧Fr (M9 dV vt (.bool false) 0 0 52 2) w2.heap.size W.heap.size W.heap vo (BH<|T.code.take k,Og k,())∧BX W.heap w.heap.size [zI ipT,vtc,vtg,vtx]∧BX W.heap w1.heap.size [zI 0,zN,zN,zN]∧k≤T.code.length∧w.heap.size<w2.heap.size∧w1.heap.size<w2.heap.size∧w2.heap.size≤W.heap.size) (fun⟨k,vo,vt⟩=>T.code.length-k) (0,v4,v5) ⟨rfl,rfl,rfl,rfl,rfl,rfl,rfl,trivial⟩ ⟨ih,ee.up<|Az AI,cu,df,oM,oM,oM,oM⟩ ?_
  clear ib ja e9 ea ic jb e8 id je dc ec ie ig jf da ed ih cv
  rintro⟨k,vo,vt⟩ ρ9 w9 ⟨d4,ah,a8,ai,ii,jg,jh,ij⟩
  have ji:w.heap.size≤w9.heap.size:=d4.size
  have jj:=a8.lt
  have jk:=ai.lt
  refine fQ [0] Z ?_
  by_cases dg:(k:Int)<(T.code.length:Int)
  ·
    refine AJ true Z Z (A7 dg) Ac<|Aj<|A0<|Ah Z<|A4<|A0<|A5<|fQ [0,0,2,3,0,4] Z<|Af 1 Z<|AH (v:=vtc) k Dg BI Z Z htcT.isSl Z sD Ac ?_
    obtain⟨cs14,ef,eg⟩:=htcT.get Ap Am.zero (k:=k) sD
    obtain⟨rfl,a0⟩:=DG ef
    refine AC (p:=AE vtc k 4) (.inr Z) [zI<|(T.code.getD k Am.zero).op,zI<|(T.code.getD k Am.zero).a,zI<|(T.code.getD k Am.zero).b,zI<|(T.code.getD k Am.zero).num] Bx Z (fun f3 a3=>eg f3<|AB.of_ext []<|d4.trans a3) Z Ac ?_
    have jl:=a8.lt
    have jm:=ai.lt
    refine B9 (z:=.agg #[zI 0,zI 0,zI 0,zI 0]) NS Ac fun kc b1 jn d5=>?_
    have ik:=b1.size
    have dh:=d4.trans b1
    have b2:=ah.ext (Az AI) b1
    have b3:=a8.ext b1
    have b4:=ai.ext b1
    replace d5:BX kc.heap w9.heap.size [zI 0,zI 0,zI 0,zI 0]:=d5
    refine Af 1 Z (Bh (vs:=[zI<|(T.code.getD k Am.zero).op,zI<|(T.code.getD k Am.zero).a,zI<|(T.code.getD k Am.zero).b,zI<|(T.code.getD k Am.zero).num]) Bx Z Z Uy d5 Z Z Ac fun fd b5 jo d6=>?_)
    replace d6:BX fd.heap w9.heap.size [zI ((T.code.getD k Am.zero).op),zI ((T.code.getD k Am.zero).a),zI ((T.code.getD k Am.zero).b),zI ((T.code.getD k Am.zero).num)]:=d6
    have il:kc.heap.size≤fd.heap.size:=b5.size
    have eh:AD w fd:=b5.below dh (fun _ h=>zE h) dh.size
    have ei:=b3.chg b5 (zB ·)
    have ej:=b4.chg b5 (zB ·)
    have ek:=CQ AI b2 b5 fun c hc=>zH<|Ab hc
    refine Aj<|fQ [0,0,3,4,0] Z ?_
    have hil:=JE k
    have di:=Dk (p':=w9.heap.size) (q':=fd.heap.size) ek<|.inl<|A9 _
    refine Af 2 Z (BQ (u:=zI (k:Int)) (B:=fd.heap.size) AN Bu BL Z Z (Jl fd.heap.size fd.heap.size _ _ oM) (A9 _) Ac fun kk kl ap jp el=>?_)
    have im:=ap.size
    have dj:=eh.trans ap
    have bm:=ei.ext ap
    have bn:=ej.ext ap
    have bo:=d6.ext ap
    have b6:=di.ext (Az AI) ap
    refine I5 (v:=vo) (vt:=vt) (a:=kk) AI Bu BL Z Z Z b6 el oM ⟨zO,zO⟩ ⟨zO,zO⟩ oM Kt Ac fun f1 f2 la b7 bp a2=>?_
    have io:kl.heap.size≤f2.heap.size:=b7.size
    have b8:AD w f2:=b7.below dj (fun c hc=>zH<|bp _ hc) dj.size
    have b9:=bm.chg b7 fun hm=>zH<|bp _ hm
    have ba:=bn.chg b7 fun hm=>zH<|bp _ hm
    have a1:=bo.chg b7 fun hm=>zH<|bp _ hm
    refine Ae 1 Z<|A0<|fQ [0,2,0,0,0,0,2,0,0,2,0,0,0,0,2,0,0,0,0,2,0,0,2,0,0,0] Z ?_
    have hin:=hK.form k oM
    have hfl:=Cx (cs:=T.code) k oM
    have hab:=Uv hin
    have ip:=hin.i0
    refine Ao (p:=zP w9.heap.size) 0 DU Z Z Ac<|Ai (p:=Au (zP w9.heap.size) 0) (.inr Z) (zI<|(T.code.getD k Am.zero).op) AG Z (a1.ldp (i:=0) sM) Ac ?_
    by_cases dk:((3:Nat):Int)≤(T.code.getD k Am.zero).op
    ·
      refine DO true Z Z (A7 dk) Ac<|Af 2 Z<|Ao (p:=zP w9.heap.size) 1 BW Z Z (Ag (e:=26) Z Z Z)<|Ai (p:=Au (zP w9.heap.size) 1) (.inr Z) (zI<|(T.code.getD k Am.zero).a) AG Z (a1.ldp (i:=1) sM) (Ag (e:=26) Z Z Z) ?_
      have cw:=Ez<|Cp a2
      refine AH (v:=vo) (((T.code.getD k Am.zero).a).toNat) Dg BI Z Z cw.isSl oM sD (Ag (e:=26) Z Z Z) ?_
      obtain⟨cs29,em,dl⟩:=cw.get Ap Am.zero (k:=((T.code.getD k Am.zero).a).toNat) sD
      obtain⟨rfl,jq⟩:=DG em
      refine AP (p:=AE vo (((T.code.getD k Am.zero).a).toNat) 4) 0 DU Z (dl _<|AB.refl [] _) (Ag (e:=26) Z Z Z)<|Ai (p:=Au (AE vo (((T.code.getD k Am.zero).a).toNat) 4) 0) (.inr Z) (zI<|((BH<|T.code.take k).getD (((T.code.getD k Am.zero).a).toNat) Am.zero).op) AG Z ((dl _<|AB.refl [] _).ld (i:=0) N8) (Ag (e:=26) Z Z Z) ?_
      by_cases dm:((BH (T.code.take k)).getD (((T.code.getD k Am.zero).a).toNat) Am.zero).op=((2:Nat):Int)
      ·
        refine Av true Z Z (A7 dm) (Ag (e:=26) Z Z Z)<|Af 2 Z<|Ao (p:=zP w9.heap.size) 0 DU Z Z (Ag (e:=35) Z Z Z)<|Ai (p:=Au (zP w9.heap.size) 0) (.inr Z) (zI<|(T.code.getD k Am.zero).op) AG Z (a1.ldp (i:=0) sM) (Ag (e:=35) Z Z Z) ?_
        by_cases dn:(T.code.getD k Am.zero).op=((7:Nat):Int)
        ·
          refine Av true Z Z (A7 dn) (Ag (e:=35) Z Z Z)<|Ae 10 Z<|Ah Z<|A0<|B7 _ [1,0,0,1,0,0,1,0,0,1,0,0,1,3,0,0,0,0,0] mixed (by kernel_rfl) ?_
          have hin:=hK.form k oM
          have hfl:=Cx (cs:=T.code) k oM
          have hab:=Uv hin
          have ip:=hin.i0
          refine AC (p:=zP w9.heap.size) (.inl Z) [zI<|(T.code.getD k Am.zero).op,zI<|(T.code.getD k Am.zero).a,zI<|(T.code.getD k Am.zero).b,zI<|(T.code.getD k Am.zero).num] Bx Z (fun f3 a3=>LD.of_box<|BX.ext (w:=f2.drew) a1 a3) Z Ac<|Af 1 Z<|Ao (p:=zP w9.heap.size) 1 BW Z Z Ac<|Ai (p:=Au (zP w9.heap.size) 1) (.inl Z) (zI<|(T.code.getD k Am.zero).a) AG Z (a1.ldp (i:=1) sM) Ac ?_
          have cx:=Ez<|Cp a2
          refine AH (v:=vo) (((T.code.getD k Am.zero).a).toNat) Dg BI Z Z cx.isSl oM sD Ac ?_
          obtain⟨cs32,en,dp⟩:=cx.get Ap Am.zero (k:=((T.code.getD k Am.zero).a).toNat) sD
          obtain⟨rfl,eo⟩:=DG en
          refine AP (p:=AE vo (((T.code.getD k Am.zero).a).toNat) 4) 3 Ec Z (dp _<|AB.refl [] _) Ac<|Ai (p:=Au (AE vo (((T.code.getD k Am.zero).a).toNat) 4) 3) (.inl Z) (zI<|((BH<|T.code.take k).getD (((T.code.getD k Am.zero).a).toNat) Am.zero).num) AG Z ((dp _<|AB.refl [] _).ld (i:=3) N8) Ac<|Af 1 Z<|Ao (p:=zP w9.heap.size) 2 BU Z Z Ac<|Ai (p:=Au (zP w9.heap.size) 2) (.inl Z) (zI<|(T.code.getD k Am.zero).b) AG Z (a1.ldp (i:=2) sM) Ac ?_
          have cy:=Ez<|Cp a2
          refine AH (v:=vo) (((T.code.getD k Am.zero).b).toNat) Dg BI Z Z cy.isSl oM sD Ac ?_
          obtain⟨cs33,ep,dq⟩:=cy.get Ap Am.zero (k:=((T.code.getD k Am.zero).b).toNat) sD
          obtain⟨rfl,eq⟩:=DG ep
          refine AP (p:=AE vo (((T.code.getD k Am.zero).b).toNat) 4) 3 Ec Z (dq _<|AB.refl [] _) Ac<|Ai (p:=Au (AE vo (((T.code.getD k Am.zero).b).toNat) 4) 3) (.inl Z) (zI<|((BH<|T.code.take k).getD (((T.code.getD k Am.zero).b).toNat) Am.zero).num) AG Z ((dq _<|AB.refl [] _).ld (i:=3) N8) Ac ?_
          refine Ay 118 [] [] [.agg #[zI<|(T.code.getD k Am.zero).op,zI<|(T.code.getD k Am.zero).a,zI<|(T.code.getD k Am.zero).b,zI<|(T.code.getD k Am.zero).num],zI<|((BH<|T.code.take k).getD (((T.code.getD k Am.zero).a).toNat) Am.zero).num,zI<|((BH<|T.code.take k).getD (((T.code.getD k Am.zero).b).toNat) Am.zero).num] Z Z Rk Ac (E7 _ ((T.code.getD k Am.zero).op) ((T.code.getD k Am.zero).a) ((T.code.getD k Am.zero).b) ((T.code.getD k Am.zero).num) _ _ a0.1 a0.2.1 a0.2.2.1 a0.2.2.2 eo.2.2.2 eq.2.2.2 oM) ?_
          rintro lb fs ⟨rfl,a4⟩
          refine⟨_,rfl,a4,?_⟩
          replace a4:=a4.of_drew
          have iq:=a4.size
          have d7:=b8.trans a4
          have aj:=b9.ext a4
          have ak:=ba.ext a4
          have a5:=a1.ext a4
          have al:=a2.ext (Az AI) a4
          refine Af 1 Z<|AO (vs:=[zI (if Cm ((T.code.getD k Am.zero).op) (((BH<|T.code.take k).getD (((T.code.getD k Am.zero).b).toNat) Am.zero).num)then 0 else CX ((T.code.getD k Am.zero).op) (((BH<|T.code.take k).getD (((T.code.getD k Am.zero).a).toNat) Am.zero).num) (((BH<|T.code.take k).getD (((T.code.getD k Am.zero).b).toNat) Am.zero).num)),.bool (!decide (Cm ((T.code.getD k Am.zero).op)<|((BH<|T.code.take k).getD (((T.code.getD k Am.zero).b).toNat) Am.zero).num))]) (zI (if Cm ((T.code.getD k Am.zero).op) (((BH<|T.code.take k).getD (((T.code.getD k Am.zero).b).toNat) Am.zero).num)then 0 else CX ((T.code.getD k Am.zero).op) (((BH<|T.code.take k).getD (((T.code.getD k Am.zero).a).toNat) Am.zero).num) (((BH<|T.code.take k).getD (((T.code.getD k Am.zero).b).toNat) Am.zero).num))) Z Z Ac ?_
          refine AO (vs:=[zI (if Cm ((T.code.getD k Am.zero).op) (((BH<|T.code.take k).getD (((T.code.getD k Am.zero).b).toNat) Am.zero).num)then 0 else CX ((T.code.getD k Am.zero).op) (((BH<|T.code.take k).getD (((T.code.getD k Am.zero).a).toNat) Am.zero).num) (((BH<|T.code.take k).getD (((T.code.getD k Am.zero).b).toNat) Am.zero).num)),.bool (!decide (Cm ((T.code.getD k Am.zero).op)<|((BH<|T.code.take k).getD (((T.code.getD k Am.zero).b).toNat) Am.zero).num))]) (.bool (!decide (Cm ((T.code.getD k Am.zero).op)<|((BH<|T.code.take k).getD (((T.code.getD k Am.zero).b).toNat) Am.zero).num))) Z Z Ac<|Ae 2 Z<|fQ [0] Z<|Ae 1 Z ?_
          cases dr:(!decide (Cm ((T.code.getD k Am.zero).op) (((BH (T.code.take k)).getD (((T.code.getD k Am.zero).b).toNat) Am.zero).num)))
          ·
            refine Ak (by first|rfl|exact zW dr)<|A4<|Ad _ [0,2,3,4,0] Z ?_
            have hfl:=Cx (cs:=T.code) k oM
            refine Af 1 Z<|AC (p:=zP w9.heap.size) (.inr Z) [zI<|(T.code.getD k Am.zero).op,zI<|(T.code.getD k Am.zero).a,zI<|(T.code.getD k Am.zero).b,zI<|(T.code.getD k Am.zero).num] Bx Z (fun f3 a3=>LD.of_box<|BX.ext (w:=fs) a5 a3) Z Ac ?_
            refine Ct (cs:=[zI<|(T.code.getD k Am.zero).op,zI<|(T.code.getD k Am.zero).a,zI<|(T.code.getD k Am.zero).b,zI<|(T.code.getD k Am.zero).num]) (y:=T.code.getD k Am.zero) (B:=fs.heap.size) (U:=fs.heap.size) Ap Dg BI Z Gc Z (DP (x:=T.code.getD k Am.zero) ⟨(show Bd ((T.code.getD k Am.zero).op)from a0.1),(show Bd ((T.code.getD k Am.zero).a)from a0.2.1),(show Bd ((T.code.getD k Am.zero).b)from a0.2.2.1),(show Bd ((T.code.getD k Am.zero).num)from a0.2.2.2)⟩) (A9 _) Ac fun km ko aq jr er=>?_
            have ir:=aq.size
            have ds:=d7.trans aq
            have bq:=aj.ext aq
            have br:=ak.ext aq
            have bs:=a5.ext aq
            have bt:=al.ext (Az AI) aq
            refine Ga (v:=vo) (vt:=f1) (a:=km) AI Dg BI Gc Z Z bt er oM ⟨zO,zO⟩ ⟨zO,zO⟩ oM Kt Ac fun kp kd lc bb bu es=>?_
            have is:ko.heap.size≤kd.heap.size:=bb.size
            have et:AD w kd:=bb.below ds (fun c hc=>zH<|bu _ hc) ds.size
            have eu:=bq.chg bb fun hm=>zH<|bu _ hm
            have ev:=br.chg bb fun hm=>zH<|bu _ hm
            have js:=bs.chg bb fun hm=>zH<|bu _ hm
            refine Ae 1 Z<|Ad _ [0,0] Z<|AS ((k+1:Nat):Int) Z Z (Bg oM sD) Ac<|Ae 1 Z ?_
            have a9:=Dk (p':=0) (q':=0) es<|.inr<|Nat.zero_le _
            exact⟨(k+1,kp,f1),_,rfl,zR,⟨et,(by rw[DH oM,Er];first|(rw[M4 (by assumption)];exact a9.up (Az AI))|(rw[M8 (by assumption) (by assumption) oM (by assumption)];exact a9.up (Az AI))|(rw[M5 (by assumption)];exact a9.up (Az AI))|(rw[M7 (by assumption)];exact a9.up (Az AI))|(rw[M6 (by assumption) (by assumption)];exact a9.up (Az AI))),eu,ev,oM,oM,oM,oM⟩,zD⟩
          refine Ah (by first|rfl|exact zW dr)<|Ad _ [0,0,4] Z<|Af 1 Z ?_
          have dt:∀(wq:World),(Instr.build 52 #[(0,zI ((2:Nat):Int)),(3,zI (if Cm ((T.code.getD k Am.zero).op) (((BH (T.code.take k)).getD (((T.code.getD k Am.zero).b).toNat) Am.zero).num)then 0 else CX ((T.code.getD k Am.zero).op) (((BH (T.code.take k)).getD (((T.code.getD k Am.zero).a).toNat) Am.zero).num) (((BH (T.code.take k)).getD (((T.code.getD k Am.zero).b).toNat) Am.zero).num)))]).run Tryz.prog wq=.ok (.agg #[zI ((2:Nat):Int),zI 0,zI 0,zI (if Cm ((T.code.getD k Am.zero).op) (((BH (T.code.take k)).getD (((T.code.getD k Am.zero).b).toNat) Am.zero).num)then 0 else CX ((T.code.getD k Am.zero).op) (((BH (T.code.take k)).getD (((T.code.getD k Am.zero).a).toNat) Am.zero).num) (((BH (T.code.take k)).getD (((T.code.getD k Am.zero).b).toNat) Am.zero).num))]) wq:=by intro wq;kernel_rfl
          refine Ch (ps:=#[(0,zI ((2:Nat):Int)),(3,zI (if Cm ((T.code.getD k Am.zero).op) (((BH<|T.code.take k).getD (((T.code.getD k Am.zero).b).toNat) Am.zero).num)then 0 else CX ((T.code.getD k Am.zero).op) (((BH<|T.code.take k).getD (((T.code.getD k Am.zero).a).toNat) Am.zero).num) (((BH<|T.code.take k).getD (((T.code.getD k Am.zero).b).toNat) Am.zero).num)))]) (.agg #[zI ((2:Nat):Int),zI 0,zI 0,zI (if Cm ((T.code.getD k Am.zero).op) (((BH<|T.code.take k).getD (((T.code.getD k Am.zero).b).toNat) Am.zero).num)then 0 else CX ((T.code.getD k Am.zero).op) (((BH<|T.code.take k).getD (((T.code.getD k Am.zero).a).toNat) Am.zero).num) (((BH<|T.code.take k).getD (((T.code.getD k Am.zero).b).toNat) Am.zero).num))]) (by simp only[zc,zf,zh];rfl) (fun wq=>dt  wq) Ac ?_
          refine Bh (vs:=[zI ((2:Nat):Int),zI 0,zI 0,zI (if Cm ((T.code.getD k Am.zero).op) (((BH<|T.code.take k).getD (((T.code.getD k Am.zero).b).toNat) Am.zero).num)then 0 else CX ((T.code.getD k Am.zero).op) (((BH<|T.code.take k).getD (((T.code.getD k Am.zero).a).toNat) Am.zero).num) (((BH<|T.code.take k).getD (((T.code.getD k Am.zero).b).toNat) Am.zero).num))]) Bx Z Z Uy a5 Z Z Ac fun fe bc jt bv=>?_
          replace bv:BX fe.heap w9.heap.size [zI ((2:Nat):Int),zI 0,zI 0,zI (if Cm ((T.code.getD k Am.zero).op) (((BH (T.code.take k)).getD (((T.code.getD k Am.zero).b).toNat) Am.zero).num)then 0 else CX ((T.code.getD k Am.zero).op) (((BH (T.code.take k)).getD (((T.code.getD k Am.zero).a).toNat) Am.zero).num) (((BH (T.code.take k)).getD (((T.code.getD k Am.zero).b).toNat) Am.zero).num))]:=bv
          have it:fs.heap.size≤fe.heap.size:=bc.size
          have ew:AD w fe:=bc.below d7 (fun _ h=>zE h) d7.size
          have ex:=aj.chg bc (zB ·)
          have ey:=ak.chg bc (zB ·)
          have ez:=CQ AI al bc fun c hc=>zH<|Ab hc
          refine Aj<|Ad _ [0,2,3,4,0] Z ?_
          have hfl:=Cx (cs:=T.code) k oM
          refine Af 1 Z<|AC (p:=zP w9.heap.size) (.inr Z) [zI ((2:Nat):Int),zI 0,zI 0,zI (if Cm ((T.code.getD k Am.zero).op) (((BH<|T.code.take k).getD (((T.code.getD k Am.zero).b).toNat) Am.zero).num)then 0 else CX ((T.code.getD k Am.zero).op) (((BH<|T.code.take k).getD (((T.code.getD k Am.zero).a).toNat) Am.zero).num) (((BH<|T.code.take k).getD (((T.code.getD k Am.zero).b).toNat) Am.zero).num))] Bx Z (fun f3 a3=>LD.of_box<|BX.ext (w:=fe) bv a3) Z Ac ?_
          refine Ct (cs:=[zI ((2:Nat):Int),zI 0,zI 0,zI (if Cm ((T.code.getD k Am.zero).op) (((BH<|T.code.take k).getD (((T.code.getD k Am.zero).b).toNat) Am.zero).num)then 0 else CX ((T.code.getD k Am.zero).op) (((BH<|T.code.take k).getD (((T.code.getD k Am.zero).a).toNat) Am.zero).num) (((BH<|T.code.take k).getD (((T.code.getD k Am.zero).b).toNat) Am.zero).num))]) (y:=(⟨((2:Nat):Int),0,0,if Cm ((T.code.getD k Am.zero).op) (((BH<|T.code.take k).getD (((T.code.getD k Am.zero).b).toNat) Am.zero).num)then 0 else CX ((T.code.getD k Am.zero).op) (((BH<|T.code.take k).getD (((T.code.getD k Am.zero).a).toNat) Am.zero).num) (((BH<|T.code.take k).getD (((T.code.getD k Am.zero).b).toNat) Am.zero).num)⟩:Am)) (B:=fe.heap.size) (U:=fe.heap.size) Ap Dg BI Z Gc Z (DP (x:=(⟨((2:Nat):Int),0,0,if Cm ((T.code.getD k Am.zero).op) (((BH<|T.code.take k).getD (((T.code.getD k Am.zero).b).toNat) Am.zero).num)then 0 else CX ((T.code.getD k Am.zero).op) (((BH<|T.code.take k).getD (((T.code.getD k Am.zero).a).toNat) Am.zero).num) (((BH<|T.code.take k).getD (((T.code.getD k Am.zero).b).toNat) Am.zero).num)⟩:Am)) ⟨(show Bd ((2:Nat):Int)from by unfold Bd;first|omega|(split <;> omega)),(show Bd (0)from by unfold Bd;first|omega|(split <;> omega)),(show Bd (0)from by unfold Bd;first|omega|(split <;> omega)),(show Bd (if Cm ((T.code.getD k Am.zero).op) (((BH<|T.code.take k).getD (((T.code.getD k Am.zero).b).toNat) Am.zero).num)then 0 else CX ((T.code.getD k Am.zero).op) (((BH<|T.code.take k).getD (((T.code.getD k Am.zero).a).toNat) Am.zero).num) (((BH<|T.code.take k).getD (((T.code.getD k Am.zero).b).toNat) Am.zero).num))from Y7)⟩) (A9 _) Ac fun kq kr ar ju g0=>?_
          have iu:=ar.size
          have du:=ew.trans ar
          have bw:=ex.ext ar
          have bx:=ey.ext ar
          have bz:=bv.ext ar
          have c0:=ez.ext (Az AI) ar
          refine Ga (v:=vo) (vt:=f1) (a:=kq) AI Dg BI Gc Z Z c0 g0 oM ⟨zO,zO⟩ ⟨zO,zO⟩ oM Kt Ac fun ks ke lf bd c1 g2=>?_
          have iv:kr.heap.size≤ke.heap.size:=bd.size
          have g3:AD w ke:=bd.below du (fun c hc=>zH<|c1 _ hc) du.size
          have g4:=bw.chg bd fun hm=>zH<|c1 _ hm
          have g5:=bx.chg bd fun hm=>zH<|c1 _ hm
          have jv:=bz.chg bd fun hm=>zH<|c1 _ hm
          refine Ae 1 Z<|Ad _ [0,0] Z<|AS ((k+1:Nat):Int) Z Z (Bg oM sD) Ac<|Ae 1 Z ?_
          have aa:=Dk (p':=0) (q':=0) g2<|.inr<|Nat.zero_le _
          exact⟨(k+1,ks,f1),_,rfl,zR,⟨g3,(by rw[DH oM,Er];first|(rw[M4 (by assumption)];exact aa.up (Az AI))|(rw[M8 (by assumption) (by assumption) oM (by assumption)];exact aa.up (Az AI))|(rw[M5 (by assumption)];exact aa.up (Az AI))|(rw[M7 (by assumption)];exact aa.up (Az AI))|(rw[M6 (by assumption) (by assumption)];exact aa.up (Az AI))),g4,g5,oM,oM,oM,oM⟩,zD⟩
        refine Av false Z Z (A8 dn) (Ag (e:=35) Z Z Z)<|Af 2 Z<|Ao (p:=zP w9.heap.size) 2 BU Z Z (Ag (e:=39) Z Z Z)<|Ai (p:=Au (zP w9.heap.size) 2) (.inr Z) (zI<|(T.code.getD k Am.zero).b) AG Z (a1.ldp (i:=2) sM) (Ag (e:=39) Z Z Z) ?_
        have cz:=Ez<|Cp a2
        refine AH (v:=vo) (((T.code.getD k Am.zero).b).toNat) Dg BI Z Z cz.isSl oM sD (Ag (e:=39) Z Z Z) ?_
        obtain⟨cs53,g6,dv⟩:=cz.get Ap Am.zero (k:=((T.code.getD k Am.zero).b).toNat) sD
        obtain⟨rfl,jw⟩:=DG g6
        refine AP (p:=AE vo (((T.code.getD k Am.zero).b).toNat) 4) 0 DU Z (dv _<|AB.refl [] _) (Ag (e:=39) Z Z Z)<|Ai (p:=Au (AE vo (((T.code.getD k Am.zero).b).toNat) 4) 0) (.inr Z) (zI<|((BH<|T.code.take k).getD (((T.code.getD k Am.zero).b).toNat) Am.zero).op) AG Z ((dv _<|AB.refl [] _).ld (i:=0) N8) (Ag (e:=39) Z Z Z) ?_
        by_cases dw:((BH (T.code.take k)).getD (((T.code.getD k Am.zero).b).toNat) Am.zero).op=((2:Nat):Int)
        ·
          refine Av true Z Z (A7 dw) (Ag (e:=39) Z Z Z)<|Ae 2 Z<|Ah Z<|A0<|B7 _ [1,0,0,1,0,0,1,0,0,1,0,0,1,3,0,0,0,0,0] mixed (by kernel_rfl) ?_
          have hin:=hK.form k oM
          have hfl:=Cx (cs:=T.code) k oM
          have hab:=Uv hin
          have ip:=hin.i0
          refine AC (p:=zP w9.heap.size) (.inl Z) [zI<|(T.code.getD k Am.zero).op,zI<|(T.code.getD k Am.zero).a,zI<|(T.code.getD k Am.zero).b,zI<|(T.code.getD k Am.zero).num] Bx Z (fun f3 a3=>LD.of_box<|BX.ext (w:=f2.drew) a1 a3) Z Ac<|Af 1 Z<|Ao (p:=zP w9.heap.size) 1 BW Z Z Ac<|Ai (p:=Au (zP w9.heap.size) 1) (.inl Z) (zI<|(T.code.getD k Am.zero).a) AG Z (a1.ldp (i:=1) sM) Ac ?_
          have d0:=Ez<|Cp a2
          refine AH (v:=vo) (((T.code.getD k Am.zero).a).toNat) Dg BI Z Z d0.isSl oM sD Ac ?_
          obtain⟨cs55,g7,dx⟩:=d0.get Ap Am.zero (k:=((T.code.getD k Am.zero).a).toNat) sD
          obtain⟨rfl,g8⟩:=DG g7
          refine AP (p:=AE vo (((T.code.getD k Am.zero).a).toNat) 4) 3 Ec Z (dx _<|AB.refl [] _) Ac<|Ai (p:=Au (AE vo (((T.code.getD k Am.zero).a).toNat) 4) 3) (.inl Z) (zI<|((BH<|T.code.take k).getD (((T.code.getD k Am.zero).a).toNat) Am.zero).num) AG Z ((dx _<|AB.refl [] _).ld (i:=3) N8) Ac<|Af 1 Z<|Ao (p:=zP w9.heap.size) 2 BU Z Z Ac<|Ai (p:=Au (zP w9.heap.size) 2) (.inl Z) (zI<|(T.code.getD k Am.zero).b) AG Z (a1.ldp (i:=2) sM) Ac ?_
          have d1:=Ez<|Cp a2
          refine AH (v:=vo) (((T.code.getD k Am.zero).b).toNat) Dg BI Z Z d1.isSl oM sD Ac ?_
          obtain⟨cs56,g9,dy⟩:=d1.get Ap Am.zero (k:=((T.code.getD k Am.zero).b).toNat) sD
          obtain⟨rfl,ga⟩:=DG g9
          refine AP (p:=AE vo (((T.code.getD k Am.zero).b).toNat) 4) 3 Ec Z (dy _<|AB.refl [] _) Ac<|Ai (p:=Au (AE vo (((T.code.getD k Am.zero).b).toNat) 4) 3) (.inl Z) (zI<|((BH<|T.code.take k).getD (((T.code.getD k Am.zero).b).toNat) Am.zero).num) AG Z ((dy _<|AB.refl [] _).ld (i:=3) N8) Ac ?_
          refine Ay 118 [] [] [.agg #[zI<|(T.code.getD k Am.zero).op,zI<|(T.code.getD k Am.zero).a,zI<|(T.code.getD k Am.zero).b,zI<|(T.code.getD k Am.zero).num],zI<|((BH<|T.code.take k).getD (((T.code.getD k Am.zero).a).toNat) Am.zero).num,zI<|((BH<|T.code.take k).getD (((T.code.getD k Am.zero).b).toNat) Am.zero).num] Z Z Rk Ac (E7 _ ((T.code.getD k Am.zero).op) ((T.code.getD k Am.zero).a) ((T.code.getD k Am.zero).b) ((T.code.getD k Am.zero).num) _ _ a0.1 a0.2.1 a0.2.2.1 a0.2.2.2 g8.2.2.2 ga.2.2.2 oM) ?_
          rintro lg fx ⟨rfl,a6⟩
          refine⟨_,rfl,a6,?_⟩
          replace a6:=a6.of_drew
          have iw:=a6.size
          have d8:=b8.trans a6
          have am:=b9.ext a6
          have an:=ba.ext a6
          have a7:=a1.ext a6
          have ao:=a2.ext (Az AI) a6
          refine Af 1 Z<|AO (vs:=[zI (if Cm ((T.code.getD k Am.zero).op) (((BH<|T.code.take k).getD (((T.code.getD k Am.zero).b).toNat) Am.zero).num)then 0 else CX ((T.code.getD k Am.zero).op) (((BH<|T.code.take k).getD (((T.code.getD k Am.zero).a).toNat) Am.zero).num) (((BH<|T.code.take k).getD (((T.code.getD k Am.zero).b).toNat) Am.zero).num)),.bool (!decide (Cm ((T.code.getD k Am.zero).op)<|((BH<|T.code.take k).getD (((T.code.getD k Am.zero).b).toNat) Am.zero).num))]) (zI (if Cm ((T.code.getD k Am.zero).op) (((BH<|T.code.take k).getD (((T.code.getD k Am.zero).b).toNat) Am.zero).num)then 0 else CX ((T.code.getD k Am.zero).op) (((BH<|T.code.take k).getD (((T.code.getD k Am.zero).a).toNat) Am.zero).num) (((BH<|T.code.take k).getD (((T.code.getD k Am.zero).b).toNat) Am.zero).num))) Z Z Ac ?_
          refine AO (vs:=[zI (if Cm ((T.code.getD k Am.zero).op) (((BH<|T.code.take k).getD (((T.code.getD k Am.zero).b).toNat) Am.zero).num)then 0 else CX ((T.code.getD k Am.zero).op) (((BH<|T.code.take k).getD (((T.code.getD k Am.zero).a).toNat) Am.zero).num) (((BH<|T.code.take k).getD (((T.code.getD k Am.zero).b).toNat) Am.zero).num)),.bool (!decide (Cm ((T.code.getD k Am.zero).op)<|((BH<|T.code.take k).getD (((T.code.getD k Am.zero).b).toNat) Am.zero).num))]) (.bool (!decide (Cm ((T.code.getD k Am.zero).op)<|((BH<|T.code.take k).getD (((T.code.getD k Am.zero).b).toNat) Am.zero).num))) Z Z Ac<|Ae 2 Z<|fQ [0] Z<|Ae 1 Z ?_
          cases dz:(!decide (Cm ((T.code.getD k Am.zero).op) (((BH (T.code.take k)).getD (((T.code.getD k Am.zero).b).toNat) Am.zero).num)))
          ·
            refine Ak (by first|rfl|exact zW dz)<|A4<|Ad _ [0,2,3,4,0] Z ?_
            have hfl:=Cx (cs:=T.code) k oM
            refine Af 1 Z<|AC (p:=zP w9.heap.size) (.inr Z) [zI<|(T.code.getD k Am.zero).op,zI<|(T.code.getD k Am.zero).a,zI<|(T.code.getD k Am.zero).b,zI<|(T.code.getD k Am.zero).num] Bx Z (fun f3 a3=>LD.of_box<|BX.ext (w:=fx) a7 a3) Z Ac ?_
            refine Ct (cs:=[zI<|(T.code.getD k Am.zero).op,zI<|(T.code.getD k Am.zero).a,zI<|(T.code.getD k Am.zero).b,zI<|(T.code.getD k Am.zero).num]) (y:=T.code.getD k Am.zero) (B:=fx.heap.size) (U:=fx.heap.size) Ap Dg BI Z Gc Z (DP (x:=T.code.getD k Am.zero) ⟨(show Bd ((T.code.getD k Am.zero).op)from a0.1),(show Bd ((T.code.getD k Am.zero).a)from a0.2.1),(show Bd ((T.code.getD k Am.zero).b)from a0.2.2.1),(show Bd ((T.code.getD k Am.zero).num)from a0.2.2.2)⟩) (A9 _) Ac fun kt ku au jx gb=>?_
            have ix:=au.size
            have e0:=d8.trans au
            have c2:=am.ext au
            have c3:=an.ext au
            have c4:=a7.ext au
            have c5:=ao.ext (Az AI) au
            refine Ga (v:=vo) (vt:=f1) (a:=kt) AI Dg BI Gc Z Z c5 gb oM ⟨zO,zO⟩ ⟨zO,zO⟩ oM Kt Ac fun kv kf lh be c6 gc=>?_
            have iy:ku.heap.size≤kf.heap.size:=be.size
            have ge:AD w kf:=be.below e0 (fun c hc=>zH<|c6 _ hc) e0.size
            have gf:=c2.chg be fun hm=>zH<|c6 _ hm
            have gg:=c3.chg be fun hm=>zH<|c6 _ hm
            have jy:=c4.chg be fun hm=>zH<|c6 _ hm
            refine Ae 1 Z<|Ad _ [0,0] Z<|AS ((k+1:Nat):Int) Z Z (Bg oM sD) Ac<|Ae 1 Z ?_
            have ab:=Dk (p':=0) (q':=0) gc<|.inr<|Nat.zero_le _
            exact⟨(k+1,kv,f1),_,rfl,zR,⟨ge,(by rw[DH oM,Er];first|(rw[M4 (by assumption)];exact ab.up (Az AI))|(rw[M8 (by assumption) (by assumption) oM (by assumption)];exact ab.up (Az AI))|(rw[M5 (by assumption)];exact ab.up (Az AI))|(rw[M7 (by assumption)];exact ab.up (Az AI))|(rw[M6 (by assumption) (by assumption)];exact ab.up (Az AI))),gf,gg,oM,oM,oM,oM⟩,zD⟩
          refine Ah (by first|rfl|exact zW dz)<|Ad _ [0,0,4] Z<|Af 1 Z ?_
          have e1:∀(wq:World),(Instr.build 52 #[(0,zI ((2:Nat):Int)),(3,zI (if Cm ((T.code.getD k Am.zero).op) (((BH (T.code.take k)).getD (((T.code.getD k Am.zero).b).toNat) Am.zero).num)then 0 else CX ((T.code.getD k Am.zero).op) (((BH (T.code.take k)).getD (((T.code.getD k Am.zero).a).toNat) Am.zero).num) (((BH (T.code.take k)).getD (((T.code.getD k Am.zero).b).toNat) Am.zero).num)))]).run Tryz.prog wq=.ok (.agg #[zI ((2:Nat):Int),zI 0,zI 0,zI (if Cm ((T.code.getD k Am.zero).op) (((BH (T.code.take k)).getD (((T.code.getD k Am.zero).b).toNat) Am.zero).num)then 0 else CX ((T.code.getD k Am.zero).op) (((BH (T.code.take k)).getD (((T.code.getD k Am.zero).a).toNat) Am.zero).num) (((BH (T.code.take k)).getD (((T.code.getD k Am.zero).b).toNat) Am.zero).num))]) wq:=by intro wq;kernel_rfl
          refine Ch (ps:=#[(0,zI ((2:Nat):Int)),(3,zI (if Cm ((T.code.getD k Am.zero).op) (((BH<|T.code.take k).getD (((T.code.getD k Am.zero).b).toNat) Am.zero).num)then 0 else CX ((T.code.getD k Am.zero).op) (((BH<|T.code.take k).getD (((T.code.getD k Am.zero).a).toNat) Am.zero).num) (((BH<|T.code.take k).getD (((T.code.getD k Am.zero).b).toNat) Am.zero).num)))]) (.agg #[zI ((2:Nat):Int),zI 0,zI 0,zI (if Cm ((T.code.getD k Am.zero).op) (((BH<|T.code.take k).getD (((T.code.getD k Am.zero).b).toNat) Am.zero).num)then 0 else CX ((T.code.getD k Am.zero).op) (((BH<|T.code.take k).getD (((T.code.getD k Am.zero).a).toNat) Am.zero).num) (((BH<|T.code.take k).getD (((T.code.getD k Am.zero).b).toNat) Am.zero).num))]) (by simp only[zc,zf,zh];rfl) (fun wq=>e1  wq) Ac ?_
          refine Bh (vs:=[zI ((2:Nat):Int),zI 0,zI 0,zI (if Cm ((T.code.getD k Am.zero).op) (((BH<|T.code.take k).getD (((T.code.getD k Am.zero).b).toNat) Am.zero).num)then 0 else CX ((T.code.getD k Am.zero).op) (((BH<|T.code.take k).getD (((T.code.getD k Am.zero).a).toNat) Am.zero).num) (((BH<|T.code.take k).getD (((T.code.getD k Am.zero).b).toNat) Am.zero).num))]) Bx Z Z Uy a7 Z Z Ac fun fr bf jz c7=>?_
          replace c7:BX fr.heap w9.heap.size [zI ((2:Nat):Int),zI 0,zI 0,zI (if Cm ((T.code.getD k Am.zero).op) (((BH (T.code.take k)).getD (((T.code.getD k Am.zero).b).toNat) Am.zero).num)then 0 else CX ((T.code.getD k Am.zero).op) (((BH (T.code.take k)).getD (((T.code.getD k Am.zero).a).toNat) Am.zero).num) (((BH (T.code.take k)).getD (((T.code.getD k Am.zero).b).toNat) Am.zero).num))]:=c7
          have iz:fx.heap.size≤fr.heap.size:=bf.size
          have gh:AD w fr:=bf.below d8 (fun _ h=>zE h) d8.size
          have gi:=am.chg bf (zB ·)
          have gj:=an.chg bf (zB ·)
          have gk:=CQ AI ao bf fun c hc=>zH<|Ab hc
          refine Aj<|Ad _ [0,2,3,4,0] Z ?_
          have hfl:=Cx (cs:=T.code) k oM
          refine Af 1 Z<|AC (p:=zP w9.heap.size) (.inr Z) [zI ((2:Nat):Int),zI 0,zI 0,zI (if Cm ((T.code.getD k Am.zero).op) (((BH<|T.code.take k).getD (((T.code.getD k Am.zero).b).toNat) Am.zero).num)then 0 else CX ((T.code.getD k Am.zero).op) (((BH<|T.code.take k).getD (((T.code.getD k Am.zero).a).toNat) Am.zero).num) (((BH<|T.code.take k).getD (((T.code.getD k Am.zero).b).toNat) Am.zero).num))] Bx Z (fun f3 a3=>LD.of_box<|BX.ext (w:=fr) c7 a3) Z Ac ?_
          refine Ct (cs:=[zI ((2:Nat):Int),zI 0,zI 0,zI (if Cm ((T.code.getD k Am.zero).op) (((BH<|T.code.take k).getD (((T.code.getD k Am.zero).b).toNat) Am.zero).num)then 0 else CX ((T.code.getD k Am.zero).op) (((BH<|T.code.take k).getD (((T.code.getD k Am.zero).a).toNat) Am.zero).num) (((BH<|T.code.take k).getD (((T.code.getD k Am.zero).b).toNat) Am.zero).num))]) (y:=(⟨((2:Nat):Int),0,0,if Cm ((T.code.getD k Am.zero).op) (((BH<|T.code.take k).getD (((T.code.getD k Am.zero).b).toNat) Am.zero).num)then 0 else CX ((T.code.getD k Am.zero).op) (((BH<|T.code.take k).getD (((T.code.getD k Am.zero).a).toNat) Am.zero).num) (((BH<|T.code.take k).getD (((T.code.getD k Am.zero).b).toNat) Am.zero).num)⟩:Am)) (B:=fr.heap.size) (U:=fr.heap.size) Ap Dg BI Z Gc Z (DP (x:=(⟨((2:Nat):Int),0,0,if Cm ((T.code.getD k Am.zero).op) (((BH<|T.code.take k).getD (((T.code.getD k Am.zero).b).toNat) Am.zero).num)then 0 else CX ((T.code.getD k Am.zero).op) (((BH<|T.code.take k).getD (((T.code.getD k Am.zero).a).toNat) Am.zero).num) (((BH<|T.code.take k).getD (((T.code.getD k Am.zero).b).toNat) Am.zero).num)⟩:Am)) ⟨(show Bd ((2:Nat):Int)from by unfold Bd;first|omega|(split <;> omega)),(show Bd (0)from by unfold Bd;first|omega|(split <;> omega)),(show Bd (0)from by unfold Bd;first|omega|(split <;> omega)),(show Bd (if Cm ((T.code.getD k Am.zero).op) (((BH<|T.code.take k).getD (((T.code.getD k Am.zero).b).toNat) Am.zero).num)then 0 else CX ((T.code.getD k Am.zero).op) (((BH<|T.code.take k).getD (((T.code.getD k Am.zero).a).toNat) Am.zero).num) (((BH<|T.code.take k).getD (((T.code.getD k Am.zero).b).toNat) Am.zero).num))from Y7)⟩) (A9 _) Ac fun kw kx av k0 gm=>?_
          have j0:=av.size
          have e2:=gh.trans av
          have c8:=gi.ext av
          have c9:=gj.ext av
          have ca:=c7.ext av
          have cb:=gk.ext (Az AI) av
          refine Ga (v:=vo) (vt:=f1) (a:=kw) AI Dg BI Gc Z Z cb gm oM ⟨zO,zO⟩ ⟨zO,zO⟩ oM Kt Ac fun ky kg li bg cc gn=>?_
          have j1:kx.heap.size≤kg.heap.size:=bg.size
          have go:AD w kg:=bg.below e2 (fun c hc=>zH<|cc _ hc) e2.size
          have gp:=c8.chg bg fun hm=>zH<|cc _ hm
          have gq:=c9.chg bg fun hm=>zH<|cc _ hm
          have k1:=ca.chg bg fun hm=>zH<|cc _ hm
          refine Ae 1 Z<|Ad _ [0,0] Z<|AS ((k+1:Nat):Int) Z Z (Bg oM sD) Ac<|Ae 1 Z ?_
          have ac:=Dk (p':=0) (q':=0) gn<|.inr<|Nat.zero_le _
          exact⟨(k+1,ky,f1),_,rfl,zR,⟨go,(by rw[DH oM,Er];first|(rw[M4 (by assumption)];exact ac.up (Az AI))|(rw[M8 (by assumption) (by assumption) oM (by assumption)];exact ac.up (Az AI))|(rw[M5 (by assumption)];exact ac.up (Az AI))|(rw[M7 (by assumption)];exact ac.up (Az AI))|(rw[M6 (by assumption) (by assumption)];exact ac.up (Az AI))),gp,gq,oM,oM,oM,oM⟩,zD⟩
        refine Av false Z Z (A8 dw) (Ag (e:=39) Z Z Z)<|Ae 2 Z<|Ak Z<|A4<|Ad _ [0,2,3,4,0] Z ?_
        have hfl:=Cx (cs:=T.code) k oM
        refine Af 1 Z<|AC (p:=zP w9.heap.size) (.inr Z) [zI<|(T.code.getD k Am.zero).op,zI<|(T.code.getD k Am.zero).a,zI<|(T.code.getD k Am.zero).b,zI<|(T.code.getD k Am.zero).num] Bx Z (fun f3 a3=>LD.of_box<|BX.ext (w:=f2) a1 a3) Z Ac ?_
        refine Ct (cs:=[zI<|(T.code.getD k Am.zero).op,zI<|(T.code.getD k Am.zero).a,zI<|(T.code.getD k Am.zero).b,zI<|(T.code.getD k Am.zero).num]) (y:=T.code.getD k Am.zero) (B:=f2.heap.size) (U:=f2.heap.size) Ap Dg BI Z Gc Z (DP (x:=T.code.getD k Am.zero) ⟨(show Bd ((T.code.getD k Am.zero).op)from a0.1),(show Bd ((T.code.getD k Am.zero).a)from a0.2.1),(show Bd ((T.code.getD k Am.zero).b)from a0.2.2.1),(show Bd ((T.code.getD k Am.zero).num)from a0.2.2.2)⟩) (A9 _) Ac fun kz l0 aw k2 gr=>?_
        have j2:=aw.size
        have e3:=b8.trans aw
        have cd:=b9.ext aw
        have ce:=ba.ext aw
        have cf:=a1.ext aw
        have cg:=a2.ext (Az AI) aw
        refine Ga (v:=vo) (vt:=f1) (a:=kz) AI Dg BI Gc Z Z cg gr oM ⟨zO,zO⟩ ⟨zO,zO⟩ oM Kt Ac fun l1 kh lj bh ch gs=>?_
        have j3:l0.heap.size≤kh.heap.size:=bh.size
        have gt:AD w kh:=bh.below e3 (fun c hc=>zH<|ch _ hc) e3.size
        have gu:=cd.chg bh fun hm=>zH<|ch _ hm
        have gv:=ce.chg bh fun hm=>zH<|ch _ hm
        have k3:=cf.chg bh fun hm=>zH<|ch _ hm
        refine Ae 1 Z<|Ad _ [0,0] Z<|AS ((k+1:Nat):Int) Z Z (Bg oM sD) Ac<|Ae 1 Z ?_
        have ad:=Dk (p':=0) (q':=0) gs<|.inr<|Nat.zero_le _
        exact⟨(k+1,l1,f1),_,rfl,zR,⟨gt,(by rw[DH oM,Er];first|(rw[M4 (by assumption)];exact ad.up (Az AI))|(rw[M8 (by assumption) (by assumption) oM (by assumption)];exact ad.up (Az AI))|(rw[M5 (by assumption)];exact ad.up (Az AI))|(rw[M7 (by assumption)];exact ad.up (Az AI))|(rw[M6 (by assumption) (by assumption)];exact ad.up (Az AI))),gu,gv,oM,oM,oM,oM⟩,zD⟩
      refine Av false Z Z (A8 dm) (Ag (e:=26) Z Z Z)<|Ae 15 Z<|Ak Z<|A4<|Ad _ [0,2,3,4,0] Z ?_
      have hfl:=Cx (cs:=T.code) k oM
      refine Af 1 Z<|AC (p:=zP w9.heap.size) (.inr Z) [zI<|(T.code.getD k Am.zero).op,zI<|(T.code.getD k Am.zero).a,zI<|(T.code.getD k Am.zero).b,zI<|(T.code.getD k Am.zero).num] Bx Z (fun f3 a3=>LD.of_box<|BX.ext (w:=f2) a1 a3) Z Ac ?_
      refine Ct (cs:=[zI<|(T.code.getD k Am.zero).op,zI<|(T.code.getD k Am.zero).a,zI<|(T.code.getD k Am.zero).b,zI<|(T.code.getD k Am.zero).num]) (y:=T.code.getD k Am.zero) (B:=f2.heap.size) (U:=f2.heap.size) Ap Dg BI Z Gc Z (DP (x:=T.code.getD k Am.zero) ⟨(show Bd ((T.code.getD k Am.zero).op)from a0.1),(show Bd ((T.code.getD k Am.zero).a)from a0.2.1),(show Bd ((T.code.getD k Am.zero).b)from a0.2.2.1),(show Bd ((T.code.getD k Am.zero).num)from a0.2.2.2)⟩) (A9 _) Ac fun l2 l3 ax k4 gw=>?_
      have j4:=ax.size
      have e4:=b8.trans ax
      have ci:=b9.ext ax
      have cj:=ba.ext ax
      have ck:=a1.ext ax
      have cm:=a2.ext (Az AI) ax
      refine Ga (v:=vo) (vt:=f1) (a:=l2) AI Dg BI Gc Z Z cm gw oM ⟨zO,zO⟩ ⟨zO,zO⟩ oM Kt Ac fun l4 ki lk bi cn gx=>?_
      have j5:l3.heap.size≤ki.heap.size:=bi.size
      have gy:AD w ki:=bi.below e4 (fun c hc=>zH<|cn _ hc) e4.size
      have gz:=ci.chg bi fun hm=>zH<|cn _ hm
      have i1:=cj.chg bi fun hm=>zH<|cn _ hm
      have k5:=ck.chg bi fun hm=>zH<|cn _ hm
      refine Ae 1 Z<|Ad _ [0,0] Z<|AS ((k+1:Nat):Int) Z Z (Bg oM sD) Ac<|Ae 1 Z ?_
      have ae:=Dk (p':=0) (q':=0) gx<|.inr<|Nat.zero_le _
      exact⟨(k+1,l4,f1),_,rfl,zR,⟨gy,(by rw[DH oM,Er];first|(rw[M4 (by assumption)];exact ae.up (Az AI))|(rw[M8 (by assumption) (by assumption) oM (by assumption)];exact ae.up (Az AI))|(rw[M5 (by assumption)];exact ae.up (Az AI))|(rw[M7 (by assumption)];exact ae.up (Az AI))|(rw[M6 (by assumption) (by assumption)];exact ae.up (Az AI))),gz,i1,oM,oM,oM,oM⟩,zD⟩
    refine DO false Z Z (A8 dk) Ac<|Ae 23 Z<|Ak Z<|A4<|Ad _ [0,2,3,4,0] Z ?_
    have hfl:=Cx (cs:=T.code) k oM
    refine Af 1 Z<|AC (p:=zP w9.heap.size) (.inr Z) [zI<|(T.code.getD k Am.zero).op,zI<|(T.code.getD k Am.zero).a,zI<|(T.code.getD k Am.zero).b,zI<|(T.code.getD k Am.zero).num] Bx Z (fun f3 a3=>LD.of_box<|BX.ext (w:=f2) a1 a3) Z Ac ?_
    refine Ct (cs:=[zI<|(T.code.getD k Am.zero).op,zI<|(T.code.getD k Am.zero).a,zI<|(T.code.getD k Am.zero).b,zI<|(T.code.getD k Am.zero).num]) (y:=T.code.getD k Am.zero) (B:=f2.heap.size) (U:=f2.heap.size) Ap Dg BI Z Gc Z (DP (x:=T.code.getD k Am.zero) ⟨(show Bd ((T.code.getD k Am.zero).op)from a0.1),(show Bd ((T.code.getD k Am.zero).a)from a0.2.1),(show Bd ((T.code.getD k Am.zero).b)from a0.2.2.1),(show Bd ((T.code.getD k Am.zero).num)from a0.2.2.2)⟩) (A9 _) Ac fun l5 l6 ay k6 i2=>?_
    have j6:=ay.size
    have e5:=b8.trans ay
    have co:=b9.ext ay
    have cp:=ba.ext ay
    have cq:=a1.ext ay
    have cr:=a2.ext (Az AI) ay
    refine Ga (v:=vo) (vt:=f1) (a:=l5) AI Dg BI Gc Z Z cr i2 oM ⟨zO,zO⟩ ⟨zO,zO⟩ oM Kt Ac fun l7 kj ll bj ct i3=>?_
    have j7:l6.heap.size≤kj.heap.size:=bj.size
    have i4:AD w kj:=bj.below e5 (fun c hc=>zH<|ct _ hc) e5.size
    have i5:=co.chg bj fun hm=>zH<|ct _ hm
    have i6:=cp.chg bj fun hm=>zH<|ct _ hm
    have k7:=cq.chg bj fun hm=>zH<|ct _ hm
    refine Ae 1 Z<|Ad _ [0,0] Z<|AS ((k+1:Nat):Int) Z Z (Bg oM sD) Ac<|Ae 1 Z ?_
    have af:=Dk (p':=0) (q':=0) i3<|.inr<|Nat.zero_le _
    exact⟨(k+1,l7,f1),_,rfl,zR,⟨i4,(by rw[DH oM,Er];first|(rw[M4 (by assumption)];exact af.up (Az AI))|(rw[M8 (by assumption) (by assumption) oM (by assumption)];exact af.up (Az AI))|(rw[M5 (by assumption)];exact af.up (Az AI))|(rw[M7 (by assumption)];exact af.up (Az AI))|(rw[M6 (by assumption) (by assumption)];exact af.up (Az AI))),i5,i6,oM,oM,oM,oM⟩,zD⟩
  refine AJ false Z Z (A8 dg) Ac<|Aj<|A0<|Ak Z<|A6<|AA<|AA<|Ax<|fQ [2,0,0,3,4] Z ?_
  have hke:k=T.code.length:=by omega
  have hil:=JE k
  refine AC (p:=zP w.heap.size) (.inr Z) [zI ipT,vtc,vtg,vtx] BE Z (fun f3 a3=>LD.of_box<|BX.ext (w:=w9) a8 a3) Z Ac<|Af 2 Z<|Ay 119 [] [] [.agg #[zI ipT,vtc,vtg,vtx],vo,vt] Z Z Rl Ac (Dy _ (ipT) vtc vtg vtx (T) (oT) vo _ vt _ _hipT (htcT.ext (Aq Ap) d4) (htgT.ext (Aq As) d4) (htoT.ext g1 d4) (Cp ah).isSlS (Hn ah).rd1 (by intro j hj;have h9:=hK.gd j hj;rw[JE];omega) (by intro j hj;have h9:=hK.out j hj;rw[JE];omega) oM oM) ?_
  rintro lm l8 ⟨vg94,vx94,rfl,az,d2,d3⟩
  refine⟨_,rfl,az,?_⟩
  have j8:=az.size
  have e6:=d4.trans az
  have ag:=ah.ext (Az AI) az
  have bk:=a8.ext az
  have bl:=ai.ext az
  refine Bh (vs:=[zI ipT,vo,vg94,vx94]) BE Z Z (by intro u hu;simp only[ze,z2,or_false]at hu;rcases hu with rfl|rfl|rfl|rfl <;> first|exact⟨rfl,rfl⟩|exact AT (Cp ag).isSlS|exact AT d2.isSlS|exact AT d3.isSl) bl Z Z Ac fun kb b0 k8 d9=>?_
  replace d9:BX kb.heap w1.heap.size [zI ipT,vo,vg94,vx94]:=d9
  have j9:l8.heap.size≤kb.heap.size:=b0.size
  have i7:AD w kb:=b0.below e6 (fun _ h=>zE h) e6.size
  have k9:=bk.chg b0 (zB ·)
  have i8:=d2.chg (An As) b0 fun _ h=>zA h
  have i9:=d3.chg (o1) b0 fun _ h=>zA h
  have ia:=CQ AI ag b0 fun c hc=>zH<|Ab hc
  exact Aj<|A3<|BK (cs:=[zI ipT,vo,vg94,vx94]) Z BE Z d9 Z ⟨vo,vg94,vx94,rfl,i7,(by have h:=(((Cp ia).up<|An Ap).low (B':=w.heap.size) oM);rwa [hke,za<|A9 _]at h),(by have h:=((i8.up<|An As).low (B':=w.heap.size) oM);rwa [hke,X1 hK]at h),(by have h:=((i9.up o1).low (B':=w.heap.size) oM);rwa [hke,X2 hK]at h)⟩
theorem Hy (w:World)(c:Am)(hc:GE c)  :
    Calls Tryz.prog 133 #[(.agg #[(zI c.op),(zI c.a),(zI c.b),(zI c.num)])] w (fun e w'=>∃v0:Value,e=.returned (v0)∧AD w w'∧Fr (BD rI 2) w.heap.size w'.heap.size w'.heap v0 (By c)):=by
  refine Aw [.agg #[zI c.op,zI c.a,zI c.b,zI c.num]] 19 Tryz.func133 Z Z sM ?_
  have a9:AD w w:=AD.refl w
  refine fQ [3,0] Z (BC (cs:=#[zI c.op,zI c.a,zI c.b,zI c.num]) Z Ac fun w1 a4 af a1=>?_)
  have aa:=a4.size
  have a0:=a9.trans a4
  replace a1:BX w1.heap w.heap.size [zI c.op,zI c.a,zI c.b,zI c.num]:=a1
  refine Ae 1 Z<|A0<|A5<|fQ [0,2,0,0] Z<|Ao (p:=zP w.heap.size) 0 DU Z Z Ac<|Ai (p:=Au (zP w.heap.size) 0) (.inr Z) (zI c.op) AG Z (a1.ldp (i:=0) sM) Ac<|AF 72 [] [] [zI c.op,zI ((3:Nat):Int),zI ((6:Nat):Int)] Z Z EA Ac (.bool (decide (((3:Nat):Int)≤c.op) && decide (c.op≤((6:Nat):Int)))) (fun wq=>B5 wq _ _ _ hc.1 oM oM)<|Ae 1 Z ?_
  cases a5:(decide (((3:Nat):Int)≤c.op) && decide (c.op≤((6:Nat):Int)))
  ·
    refine Ak (by first|rfl|exact zW a5)<|fQ [0,2,0,0] Z<|Ao (p:=zP w.heap.size) 0 DU Z Z Ac<|Ai (p:=Au (zP w.heap.size) 0) (.inr Z) (zI c.op) AG Z (a1.ldp (i:=0) sM) Ac ?_
    by_cases a6:c.op=((7:Nat):Int)
    ·
      refine Av true Z Z (A7 a6) Ac<|Ae 1 Z<|Ah Z<|fQ [0,2,3,0] Z<|Ao (p:=zP w.heap.size) 1 BW Z Z Ac<|Ai (p:=Au (zP w.heap.size) 1) (.inr Z) (zI c.a) AG Z (a1.ldp (i:=1) sM) Ac (BQ (u:=zI c.a) (B:=w1.heap.size) AN Bu BL Z Z (Jl w1.heap.size w1.heap.size _ _ hc.2.1) (A9 _) Ac fun v5 w5 a7 ag a2=>?_)
      have ab:=a7.size
      have ac:=a0.trans a7
      exact Ae 1 Z<|A3<|AM<|At<|Al [2] Z v5 Z ⟨v5,rfl,ac,(by first|exact PP (by assumption) ((a2.up o1).low a0.size)|exact PQ (by assumption) (by assumption) ((a2.up o1).low a0.size)|exact PR (by assumption) (by assumption) ((a2.up o1).low a0.size))⟩
    exact Av false Z Z (A8 a6) Ac<|Ae 1 Z<|Ak Z<|A4<|fR Z<|A3<|Al [2] Z zN Z ⟨zN,rfl,a0,(by first|exact PP (by assumption) (Jj _ _ _)|exact PQ (by assumption) (by assumption) (Jj _ _ _)|exact PR (by assumption) (by assumption) (Jj _ _ _))⟩
  refine Ah (by first|rfl|exact zW a5)<|fQ [0,2,0,2,3,0] Z<|Ao (p:=zP w.heap.size) 1 BW Z Z Ac<|Ai (p:=Au (zP w.heap.size) 1) (.inr Z) (zI c.a) AG Z (a1.ldp (i:=1) sM) Ac<|Ao (p:=zP w.heap.size) 2 BU Z Z Ac<|Ai (p:=Au (zP w.heap.size) 2) (.inr Z) (zI c.b) AG Z (a1.ldp (i:=2) sM) Ac (Tw (ys:=[c.a,c.b]) AN Bu BL Z Z Z Z (Xm hc.2.1 hc.2.2.1) Ac fun v6 w6 a8 ah a3=>?_)
  have ad:=a8.size
  have ae:=a0.trans a8
  exact Ae 1 Z<|A3<|AM<|At<|Al [2] Z v6 Z ⟨v6,rfl,ae,(by first|exact PP (by assumption) ((a3.up o1).low a0.size)|exact PQ (by assumption) (by assumption) ((a3.up o1).low a0.size)|exact PR (by assumption) (by assumption) ((a3.up o1).low a0.size))⟩
theorem FU (w:World)(ni:Nat)(ipT:Int)(vtc vtg vtx:Value)(T:Tp)(oT:Sr)(vr:Value)(rs:Sr)(_hipT:Bd ipT)(htcT:RN [] (CK 4 Gs) w.heap vtc T.code)(htgT:RN [] (CK 2 FV) w.heap vtg T.grd)(htoT:RN [] (Bl rI) w.heap vtx oT)(hrs:Rd (Bl rI) w.heap vr rs)(hK:ND ni T oT)(hrng:∀k,k<rs.length→0≤rs.getD k 0∧rs.getD k 0<(T.code.length:Int)) :
    Calls Tryz.prog 73 #[(.agg #[(zI ipT),vtc,vtg,vtx]),vr] w (fun e w'=>∃v0:Value,e=.returned v0∧AD w w'∧Fr (BD rB 4) w.heap.size w'.heap.size w'.heap v0 (Ml T.code rs)):=by
  refine Aw [.agg #[zI ipT,vtc,vtg,vtx],vr] 59 Tryz.func73 Z Z sM ?_
  have b8:AD w w:=AD.refl w
  have hl_vtx:=htoT.lenL
  unfold maxLen at hl_vtx
  have cd:=hrs.lenle
  have hcl:=hK.cl
  have cg:=hK.gl
  have hol:=hK.ol
  have hpos:=hK.pos
  refine fQ [3,0] Z (BC (cs:=#[zI ipT,vtc,vtg,vtx]) Z Ac fun w1 au bk ap=>?_)
  have bl:=au.size
  have bm:=b8.trans au
  replace ap:BX w1.heap w.heap.size [zI ipT,vtc,vtg,vtx]:=ap
  refine Ae 1 Z<|fQ [0,2,0,3,0] Z<|Ao (p:=zP w.heap.size) 1 Ck Z Z Ac<|Ai (p:=Au (zP w.heap.size) 1) (.inr Z) vtc Dx Z (ap.ldp (i:=1) sM) Ac<|AU (v:=vtc) Dg Z htcT.isSl Ac (Vv (n:=T.code.length) Mp XX Z Z Z sD Ac fun v2 w2 aq bn b9=>?_)
  have bo:=aq.size
  have bp:=bm.trans aq
  have ak:=ap.ext aq
  refine Ae 1 Z<|A0<|fQ [0,0,0] Z<|Af 1 Z<|AU (v:=vr) Bu Z hrs.isSl Ac<|Ae 1 Z<|A5 ?_
  refine B8 (S:=Nat) (fun k=>([(17,zI (k:Int)),(2,zP w.heap.size),(5,v2),(15,vr),(16,zI (rs.length:Int))])) (fun k W=>AD w W∧Fr (BD rB 4) w1.heap.size w2.heap.size W.heap v2 (NF T.code.length<|rs.take k)∧BX W.heap w.heap.size [zI ipT,vtc,vtg,vtx]∧k≤rs.length∧w.heap.size<w1.heap.size∧w2.heap.size≤W.heap.size∧w1.heap.size≤W.heap.size) (fun k=>rs.length-k) 0 ⟨rfl,rfl,rfl,rfl,rfl,trivial⟩ ⟨bp,b9,ak,sD,oM,oM,oM⟩ ?_
  clear b8 bk au b9 bn aq
  rintro k ρ3 w3 ⟨aj,a7,a4,ba,bq,br,bs⟩
  have av:w.heap.size≤w3.heap.size:=aj.size
  have c9:=a4.lt
  refine fQ [0] Z ?_
  by_cases bb:(k:Int)<(rs.length:Int)
  ·
    refine AJ true Z Z (A7 bb) Ac<|Aj<|A0<|Ah Z<|A4<|A0<|A5<|fQ [0,2,0] Z<|AH (v:=vr) k Bu BL Z Z hrs.isSl Z sD Ac ?_
    refine Ai (p:=AE vr k 1) (.inr Z) (zI<|rs.getD k 0) AG Z (Bk aj (hrs.getI sD).1) Ac<|Ae 1 Z<|Ad _ [0,0,0,4] Z ?_
    have hrk:=hrng k oM
    have hnl:=He T.code.length<|rs.take k
    refine Af 2 Z<|AH (v:=v2) ((rs.getD k 0).toNat) Mp XX Z Z a7.isSl oM sD Ac ?_
    refine PO (v:=v2) (w:=w3) fI Z Z a7 sD Ac fun w7 F7 aw ca bc bt=>?_
    have bu:w3.heap.size≤w7.heap.size:=aw.size
    have bv:AD w w7:=aw.below aj (fun c hc=>zH<|bc _ hc) aj.size
    have bw:=a4.chg aw fun hm=>zH<|bc _ hm
    refine Aj<|Ad _ [0,0] Z<|AS ((k+1:Nat):Int) Z Z (Bg oM sD) Ac<|Ae 1 Z ?_
    exact⟨k+1,_,rfl,zR,⟨bv,(by rw[TQ oM];exact bt),bw,sD,oM,oM,oM⟩,zD⟩
  refine AJ false Z Z (A8 bb) Ac<|Aj<|A0<|Ak Z<|A6<|AA<|AA<|Ax<|A0<|fQ [0,2,0,0,0] Z<|Ao (p:=zP w.heap.size) 1 Ck Z Z Ac<|Ai (p:=Au (zP w.heap.size) 1) (.inr Z) vtc Dx Z (a4.ldp (i:=1) sM) Ac<|AU (v:=vtc) Dg Z htcT.isSl Ac ?_
  refine BP ((T.code.length:Int)-((1:Nat):Int)) Z Z (E1 sD sD) Ac<|Ae 1 Z<|A5 ?_
  refine B8 (S:=Nat×Int) (fun⟨j,kk⟩=>([(8,zI kk),(2,zP w.heap.size),(5,v2)])) (fun⟨j,kk⟩ W=>AD w W∧Fr (BD rB 4) w1.heap.size w2.heap.size W.heap v2 (Mi T.code (NF T.code.length rs) j)∧BX W.heap w.heap.size [zI ipT,vtc,vtg,vtx]∧j≤T.code.length∧kk=(T.code.length:Int)-1-(j:Int)∧w.heap.size<w1.heap.size∧w2.heap.size≤W.heap.size∧w1.heap.size≤W.heap.size) (fun⟨j,kk⟩=>T.code.length-j) (0,(T.code.length:Int)-1) ⟨rfl,rfl,rfl,trivial⟩ ⟨aj,(by have h:=a7;rwa [za oM]at h),a4,oM,oM,oM,oM,oM⟩ ?_
  clear a4 a7 aj av
  rintro⟨j,kk⟩ ρ9 w9 ⟨ar,ab,a8,bd,hkk,bx,bz,be⟩
  have c0:w.heap.size≤w9.heap.size:=ar.size
  have c1:=a8.lt
  refine A0<|fQ [0,0] Z<|Af 1 Z ?_
  by_cases al:((0:Nat):Int)≤kk
  ·
    refine DO true Z Z (A7 al) Ac<|Aj<|Ah Z<|A4<|A0<|A5<|fQ [0,2,0,0,2,3,0,0] Z ?_
    have hnl:=JC T.code (NF T.code.length rs) j
    have hns:=He T.code.length rs
    refine Ao (p:=zP w.heap.size) 1 Ck Z Z Ac<|Ai (p:=Au (zP w.heap.size) 1) (.inr Z) vtc Dx Z (a8.ldp (i:=1) sM) Ac<|Af 1 Z<|AH (v:=vtc) ((kk).toNat) Dg BI Z Z htcT.isSl oM sD Ac ?_
    obtain⟨cs13,ax,ay⟩:=htcT.get Ap Am.zero (k:=(kk).toNat) sD
    obtain⟨rfl,ad⟩:=DG ax
    refine AC (p:=AE vtc ((kk).toNat) 4) (.inr Z) [zI<|(T.code.getD ((kk).toNat) Am.zero).op,zI<|(T.code.getD ((kk).toNat) Am.zero).a,zI<|(T.code.getD ((kk).toNat) Am.zero).b,zI<|(T.code.getD ((kk).toNat) Am.zero).num] Bx Z (fun ch c2=>ay ch<|AB.of_ext []<|ar.trans c2) Z Ac<|Ay 133 [] [] [.agg #[zI<|(T.code.getD ((kk).toNat) Am.zero).op,zI<|(T.code.getD ((kk).toNat) Am.zero).a,zI<|(T.code.getD ((kk).toNat) Am.zero).b,zI<|(T.code.getD ((kk).toNat) Am.zero).num]] Z Z cF Ac (Hy _ (⟨(T.code.getD ((kk).toNat) Am.zero).op,(T.code.getD ((kk).toNat) Am.zero).a,(T.code.getD ((kk).toNat) Am.zero).b,(T.code.getD ((kk).toNat) Am.zero).num⟩:Am) ⟨ad.1,ad.2.1,ad.2.2.1,ad.2.2.2⟩) ?_
    rintro ci cc ⟨a1,rfl,a9,ac⟩
    refine⟨_,rfl,a9,?_⟩
    have bf:=a9.size
    have az:=ar.trans a9
    have a5:=ab.ext (oB) a9
    have a6:=a8.ext a9
    have ag:Fr (BD rI 2) w9.heap.size cc.heap.size cc.heap a1 (By (T.code.getD (kk).toNat Am.zero)):=ac
    refine AU (v:=a1) Bu Z ag.isSl Ac<|Ae 1 Z<|A5 ?_
    refine B8 (S:=Nat) (fun i=>([(40,zI (i:Int)),(2,zP w.heap.size),(5,v2),(8,zI kk),(38,a1),(39,zI (((By<|T.code.getD (kk).toNat Am.zero).length:Nat):Int))])) (fun i W=>AD w W∧Fr (BD rB 4) w1.heap.size w2.heap.size W.heap v2 (Mh (kk).toNat (Mi T.code (NF T.code.length rs) j)<|(By<|T.code.getD (kk).toNat Am.zero).take i)∧Fr (BD rI 2) w9.heap.size cc.heap.size W.heap a1 (By<|T.code.getD (kk).toNat Am.zero)∧BX W.heap w.heap.size [zI ipT,vtc,vtg,vtx]∧i≤(By<|T.code.getD (kk).toNat Am.zero).length∧w.heap.size<w1.heap.size∧w2.heap.size≤W.heap.size∧(0≤kk∧j<T.code.length)∧w1.heap.size≤W.heap.size) (fun i=>(By<|T.code.getD (kk).toNat Am.zero).length-i) 0 ⟨rfl,rfl,rfl,rfl,rfl,rfl,trivial⟩ ⟨az,a5,ag,a6,sD,oM,oM,oM,oM⟩ ?_
    clear a8 ab ac a9 a5 a6
    rintro i ρ16 cb ⟨aa,a0,a2,a3,b0,c3,c4,hkj,bg⟩
    have bh:w.heap.size≤cb.heap.size:=aa.size
    have c5:=a3.lt
    refine fQ [0] Z ?_
    by_cases am:(i:Int)<(((By (T.code.getD (kk).toNat Am.zero)).length:Nat):Int)
    ·
      refine AJ true Z Z (A7 am) Ac<|Aj<|A0<|Ah Z<|A4<|A0<|A5<|fQ [0,2,0] Z<|AH (v:=a1) i Bu BL Z Z a2.isSl Z sD Ac ?_
      refine Ai (p:=AE a1 i 1) (.inr Z) (zI<|(By<|T.code.getD (kk).toNat Am.zero).getD i 0) AG Z (a2.rd1.getI sD).1 Ac (Ae 1 Z<|Ad _ [0,0,0,0,0,2,0,0,0,0,2,0,0,4] Z ?_)
      have hnl:=JC T.code (NF T.code.length rs) j
      have hns:=He T.code.length rs
      have cg:=NG (kk).toNat ((By<|T.code.getD (kk).toNat Am.zero).take i)<|Mi T.code (NF T.code.length rs) j
      have hop:=NH (hK.form (kk).toNat oM) i oM
      refine Af 4 Z<|AH (v:=v2) (((By<|T.code.getD (kk).toNat Am.zero).getD i 0).toNat) Mp XX Z Z a0.isSl oM sD Ac ?_
      refine Ai (p:=AE v2 (((By<|T.code.getD (kk).toNat Am.zero).getD i 0).toNat) 1) (.inr Z) (.bool<|(Mh (kk).toNat (Mi T.code (NF T.code.length rs) j)<|(By<|T.code.getD (kk).toNat Am.zero).take i).getD (((By<|T.code.getD (kk).toNat Am.zero).getD i 0).toNat) false) PZ Z (a0.getB sD) Ac<|Af 1 Z ?_
      cases c6:((Mh (kk).toNat (Mi T.code (NF T.code.length rs) j) ((By (T.code.getD (kk).toNat Am.zero)).take i)).getD (((By (T.code.getD (kk).toNat Am.zero)).getD i 0).toNat) false)
      ·
        refine Af 2 Z<|AH (v:=v2) ((kk).toNat) Mp XX Z Z a0.isSl oM sD (Ag (e:=50) Z Z Z) ?_
        refine Ai (p:=AE v2 ((kk).toNat) 1) (.inr Z) (.bool<|(Mh (kk).toNat (Mi T.code (NF T.code.length rs) j)<|(By<|T.code.getD (kk).toNat Am.zero).take i).getD ((kk).toNat) false) PZ Z (a0.getB sD) (Ag (e:=50) Z Z Z)<|Af 1 Z ?_
        refine AH (v:=v2) (((By<|T.code.getD (kk).toNat Am.zero).getD i 0).toNat) Mp XX Z Z a0.isSl oM sD Ac ?_
        refine PO (v:=v2) (w:=cb) fI Z Z a0 sD Ac fun ce cj ae c7 ah an=>?_
        have bi:cb.heap.size≤ce.heap.size:=ae.size
        have b1:AD w ce:=ae.below aa (fun c hc=>zH<|ah _ hc) aa.size
        have b2:=a2.chg (o1) ae fun c hc=>zH<|ah _ hc
        have b3:=a3.chg ae fun hm=>zH<|ah _ hm
        refine Aj<|Ad _ [0,0] Z ?_
        have b4:=P5<|T.code.getD (kk).toNat Am.zero
        refine AS ((i+1:Nat):Int) Z Z (Bg oM sD) Ac<|Ae 1 Z ?_
        exact⟨i+1,_,rfl,zR,⟨b1,(by first|(rw[LB oM (by assumption)];exact an)|(rw[LC oM (by assumption)];exact an)),b2,b3,sD,oM,oM,oM,oM⟩,zD⟩
      refine Af 5 Z<|AH (v:=v2) (((By<|T.code.getD (kk).toNat Am.zero).getD i 0).toNat) Mp XX Z Z a0.isSl oM sD Ac ?_
      refine PO (v:=v2) (w:=cb) fI Z Z a0 sD Ac fun cf ck af c8 ai ao=>?_
      have bj:cb.heap.size≤cf.heap.size:=af.size
      have b5:AD w cf:=af.below aa (fun c hc=>zH<|ai _ hc) aa.size
      have b6:=a2.chg (o1) af fun c hc=>zH<|ai _ hc
      have b7:=a3.chg af fun hm=>zH<|ai _ hm
      refine Aj<|Ad _ [0,0] Z ?_
      have b4:=P5<|T.code.getD (kk).toNat Am.zero
      refine AS ((i+1:Nat):Int) Z Z (Bg oM sD) Ac<|Ae 1 Z ?_
      exact⟨i+1,_,rfl,zR,⟨b5,(by first|(rw[LB oM (by assumption)];exact ao)|(rw[LC oM (by assumption)];exact ao)),b6,b7,sD,oM,oM,oM,oM⟩,zD⟩
    refine AJ false Z Z (A8 am) Ac<|Aj<|A0<|Ak Z<|A6<|AA<|AA<|Ax<|Ad _ [0,0,0] Z<|Af 1 Z ?_
    refine BP (kk-((1:Nat):Int)) Z Z (E1 sD sD) Ac<|Ae 1 Z ?_
    exact⟨(j+1,kk-((1:Nat):Int)),_,rfl,zR,⟨aa,(by have h:=a0;rw[za oM,show(kk).toNat=T.code.length-1-j from by omega]at h;exact h),a3,oM,oM,oM,oM,oM⟩,zD⟩
  exact DO false Z Z (A8 al) Ac<|Aj<|Ak Z<|A6<|AA<|AA<|Ax<|fQ [0,0] Z<|Ae 2 Z<|A3<|Al [4] Z v2 Z ⟨_,rfl,ar,(by have h:=(ab.up oB).low (B':=w.heap.size) oM;rw[show j=T.code.length from by omega]at h;exact h)⟩
theorem Iu (w:World)(ni:Nat)(ipT:Int)(vtc vtg vtx:Value)(T:Tp)(oT:Sr)(_hipT:Bd ipT)(htcT:RN [] (CK 4 Gs) w.heap vtc T.code)(htgT:RN [] (CK 2 FV) w.heap vtg T.grd)(htoT:RN [] (Bl rI) w.heap vtx oT)(hK:ND ni T oT) :
    Calls Tryz.prog 60 #[(.agg #[(zI ipT),vtc,vtg,vtx])] w (fun e w'=>∃(vC vG vO:Value),e=.returned (.agg #[zI ipT,vC,vG,vO])∧AD w w'∧Fr (DB 4 Gs 52) w.heap.size w'.heap.size w'.heap vC ((DR T.code (Dq T.code T.grd oT) T.code.length)).1∧Fr (DB 2 FV 107) w.heap.size w'.heap.size w'.heap vG (T.grd.map (G7 ((DR T.code (Dq T.code T.grd oT) T.code.length)).2))∧Fr (BD rI 2) w.heap.size w'.heap.size w'.heap vO (oT.map (HP ((DR T.code (Dq T.code T.grd oT) T.code.length)).2))):=by
  refine Aw [.agg #[zI ipT,vtc,vtg,vtx]] 61 Tryz.func60 Z Z sM ?_
  have gw:AD w w:=AD.refl w
  have hl_vtx:=htoT.lenL
  unfold maxLen at hl_vtx
  have hcl:=hK.cl
  have kf:=hK.gl
  have hol:=hK.ol
  have hpos:=hK.pos
  refine fQ [3,3] Z (BC (cs:=#[zI ipT,vtc,vtg,vtx]) Z Ac fun w1 ed iw eb=>?_)
  have ee:=ed.size
  have gx:=gw.trans ed
  replace eb:BX w1.heap w.heap.size [zI ipT,vtc,vtg,vtx]:=eb
  have jm:=eb.lt
  refine B9 (z:=.agg #[zI 0,zN,zN,zN]) Kb Ac fun w2 ec ix ef=>?_
  have d5:=ec.size
  have d6:=gx.trans ec
  have cr:=eb.ext ec
  replace ef:BX w2.heap w1.heap.size [zI 0,zN,zN,zN]:=ef
  refine Aj<|fQ [0,2,3,0] Z<|Ao (p:=zP w.heap.size) 3 Es Z Z Ac<|Ai (p:=Au (zP w.heap.size) 3) (.inr Z) vtx BN Z (cr.ldp (i:=3) sM) Ac<|Ay 94 [] [] [vtx] Z Z fG Ac (Fh _ _ _ (htoT.ext g1 d6).rd oM) ?_
  rintro e4 w4 ⟨eg,rfl,d4,ct⟩
  refine⟨_,rfl,d4,?_⟩
  have eh:=d4.size
  have gy:=d6.trans d4
  have cu:=cr.ext d4
  have d7:=ef.ext d4
  refine Ae 1 Z<|A0<|fQ [0,2,0,0] Z<|Ao (p:=zP w.heap.size) 2 DT Z Z Ac<|Ai (p:=Au (zP w.heap.size) 2) (.inr Z) vtg GM Z (cu.ldp (i:=2) sM) Ac<|AU (v:=vtg) Ky Z htgT.isSl Ac<|Ae 1 Z<|A5 ?_
  refine B8 (S:=Nat×Value) (fun⟨j,ve⟩=>([(3,ve),(16,zI (j:Int)),(1,zP w.heap.size),(2,zP w1.heap.size),(14,vtg),(15,zI (T.grd.length:Int))])) (fun⟨j,ve⟩ W=>AD w W∧Fr (BD rI 2) w2.heap.size W.heap.size W.heap ve (oT++(T.grd.take j).map (·.reg))∧BX W.heap w.heap.size [zI ipT,vtc,vtg,vtx]∧BX W.heap w1.heap.size [zI 0,zN,zN,zN]∧j≤T.grd.length∧w.heap.size<w2.heap.size∧w1.heap.size<w2.heap.size∧w2.heap.size≤W.heap.size) (fun⟨j,ve⟩=>T.grd.length-j) (0,eg) ⟨rfl,rfl,rfl,rfl,rfl,rfl,trivial⟩ ⟨gy,(by rw[List.take_zero,zh,List.append_nil];exact ct.up o1),cu,d7,oM,oM,oM,oM⟩ ?_
  clear gw iw ed ee gx ix ec ct d4 eh gy
  rintro⟨j,ve⟩ ρ7 w7 ⟨d8,ae,a2,a3,gz,iy,iz,j0⟩
  have j1:w.heap.size≤w7.heap.size:=d8.size
  have jn:=a2.lt
  have j2:=a3.lt
  refine fQ [0] Z ?_
  by_cases d9:(j:Int)<(T.grd.length:Int)
  ·
    refine AJ true Z Z (A7 d9) Ac<|Aj<|A0<|Ah Z<|A4<|A0<|A5<|fQ [0,2,3,4] Z<|AH (v:=vtg) j Ky Ed Z Z htgT.isSl Z sD Ac ?_
    obtain⟨cs12,ei,ej⟩:=htgT.get As Bt.zero (k:=j) sD
    obtain⟨rfl,ek⟩:=HN ei
    refine AC (p:=AE vtg j 2) (.inr Z) [zI<|(T.grd.getD j Bt.zero).reg,.bool<|(T.grd.getD j Bt.zero).z] DV Z (fun f1 b7=>ej f1<|AB.of_ext []<|d8.trans b7) Z Ac ?_
    have j3:=a2.lt
    have j4:=a3.lt
    refine B9 (z:=.agg #[zI 0,.bool false]) Rv Ac fun ju bk j5 cz=>?_
    have i0:=bk.size
    have da:=d8.trans bk
    have bl:=ae.ext (o1) bk
    have bm:=a2.ext bk
    have bn:=a3.ext bk
    replace cz:BX ju.heap w7.heap.size [zI 0,.bool false]:=cz
    refine Bh (vs:=[zI<|(T.grd.getD j Bt.zero).reg,.bool<|(T.grd.getD j Bt.zero).z]) DV Z Z (by intro u hu;simp only[ze,z2,or_false]at hu;rcases hu with rfl|rfl <;> first|exact⟨rfl,rfl⟩) cz Z Z Ac fun fd bo j6 bw=>?_
    replace bw:BX fd.heap w7.heap.size [zI ((T.grd.getD j Bt.zero).reg),.bool ((T.grd.getD j Bt.zero).z)]:=bw
    have i1:ju.heap.size≤fd.heap.size:=bo.size
    have el:AD w fd:=bo.below da (fun _ h=>zE h) da.size
    have em:=bl.chg (o1) bo fun _ h=>zA h
    have en:=bm.chg bo (zB ·)
    have eo:=bn.chg bo (zB ·)
    refine Aj<|Ad _ [0,0,2,3,4,0] Z<|Af 1 Z<|Ao (p:=zP w7.heap.size) 0 KZ Z Z Ac<|Ai (p:=Au (zP w7.heap.size) 0) (.inr Z) (zI<|(T.grd.getD j Bt.zero).reg) AG Z (bw.ldp (i:=0) sM) Ac (BQ (u:=zI<|(T.grd.getD j Bt.zero).reg) (B:=fd.heap.size) AN Bu BL Z Z (Jl fd.heap.size fd.heap.size _ _ ek) (A9 _) Ac fun k2 k3 b8 j7 db=>?_)
    have i2:=b8.size
    have dc:=el.trans b8
    have bx:=em.ext (o1) b8
    have bz:=en.ext b8
    have c0:=eo.ext b8
    have c1:=bw.ext b8
    refine FH (v:=ve) (a:=k2) Bu BL Z Z Z bx oM db.rd1 (by rw[z4,zg,List.length_take];simp only[zd];omega) (by rw[z4,zg,List.length_take];simp only[zd];unfold maxLen;omega) Ac fun k4 jv kg b9 bp ep=>?_
    have eq:AD w jv:=b9.below dc (fun c hc=>Aa d6.size (bp c hc).1) dc.size
    have i3:k3.heap.size≤jv.heap.size:=b9.size
    have er:=bz.chg b9 fun hm=>zH<|bp _ hm
    have es:=c0.chg b9 fun hm=>zH<|bp _ hm
    have j8:=c1.chg b9 fun hm=>zH<|bp _ hm
    have j9:=db.chg (o1) b9 fun c hc=>zH<|bp c hc
    exact Ae 1 Z<|Ad _ [0,0] Z<|AS ((j+1:Nat):Int) Z Z (Bg oM sD) Ac<|Ae 1 Z ⟨(j+1,k4),_,rfl,zR,⟨eq,(by rw[Em Bt.zero oM,← List.append_assoc];exact ep.up o1),er,es,oM,oM,oM,oM⟩,zD⟩
  refine AJ false Z Z (A8 d9) Ac<|Aj<|A0<|Ak Z<|A6<|AA<|AA<|Ax<|A0<|Sf _ [3,0,1,0,3,0,0] 0 4 [1,2,3,4,0,5,6] [_,_,_,_,_,_,_] [0,1,0,3,3,0,0] mixed (by kernel_rfl) Z ⟨rfl,rfl,⟨rfl,rfl,⟨rfl,rfl,⟨rfl,rfl,⟨rfl,rfl,⟨rfl,rfl,⟨rfl,rfl,trivial⟩⟩⟩⟩⟩⟩⟩ ?_ ?_
  ·
    refine Ls (α:=Am) Ap Dg BI Ac fun k5 kh af et dd=>?_
    replace af:=af.of_drew
    have de:=af.size
    have df:=d8.trans af
    have ag:=ae.ext (o1) af
    have ah:=a2.ext af
    have ai:=a3.ext af
    refine Ao (p:=zP w.heap.size) 1 Ck Z Z Ac<|Ai (p:=Au (zP w.heap.size) 1) (.inl Z) vtc Dx Z (a2.ldp (i:=1) sM) Ac<|AU (v:=vtc) Dg Z htcT.isSl Ac (Gd (n:=T.code.length) Bu BL Z Z Z sD Ac fun f2 fe b1 eu dg=>?_)
    have i4:=b1.size
    have c2:=df.trans b1
    have aj:=ag.ext (o1) b1
    have a4:=ah.ext b1
    have ak:=ai.ext b1
    have b5:=dd.ext (An Ap) b1
    refine Ae 2 Z<|A0<|fQ [2,0,3,0,0] Z ?_
    have dh:=O8 (B:=w7.heap.size) (U:=fe.heap.size) b5 dg oM ⟨by first|omega|exact A9 _,by first|omega|exact A9 _,zO,zO⟩
    have hends:=aj
    rw[za oM]at hends
    refine AC (p:=zP w.heap.size) (.inr Z) [zI ipT,vtc,vtg,vtx] BE Z (fun f1 b7=>LD.of_box<|BX.ext (w:=fe) a4 b7) Z Ac<|Af 1 Z<|Ay 73 [] [] [.agg #[zI ipT,vtc,vtg,vtx],ve] Z Z bR Ac (FU _ ni (ipT) vtc vtg vtx (T) (oT) ve (oT++T.grd.map (·.reg)) _hipT (htcT.ext (Aq Ap) c2) (htgT.ext (Aq As) c2) (htoT.ext g1 c2) hends.rd1 hK (by exact Pf hK)) ?_
    rintro ki jo ⟨fr,rfl,al,d0⟩
    refine⟨_,rfl,al,?_⟩
    have i5:=al.size
    have ev:=c2.trans al
    have hendsx29:=hends.ext (o1) al
    have am:=a4.ext al
    have an:=ak.ext al
    have bq:=dh.ext (Az AI) al
    refine AU (v:=fr) Mp Z d0.isSl Ac<|Ae 1 Z<|A5 ?_
    have di:=Dk (p':=fe.heap.size) (q':=jo.heap.size) bq<|.inl<|A9 _
    refine B8 (S:=Nat×Value) (fun⟨k,vo⟩=>([(6,vo),(35,zI (k:Int)),(1,zP w.heap.size),(2,zP w1.heap.size),(7,f2),(33,fr),(34,zI (((Dq T.code T.grd oT).length:Nat):Int))])) (fun⟨k,vo⟩ W=>AD w W∧Fr (M9 dV f2 (.bool false) fe.heap.size jo.heap.size 52 2) w7.heap.size W.heap.size W.heap vo ((DR T.code (Dq T.code T.grd oT) k).1,(DR T.code (Dq T.code T.grd oT) k).2,())∧Fr (BD rB 4) fe.heap.size jo.heap.size W.heap fr (Dq T.code T.grd oT)∧BX W.heap w.heap.size [zI ipT,vtc,vtg,vtx]∧BX W.heap w1.heap.size [zI 0,zN,zN,zN]∧k≤T.code.length∧jo.heap.size≤W.heap.size∧w.heap.size<w7.heap.size∧w1.heap.size<w7.heap.size∧w7.heap.size≤W.heap.size) (fun⟨k,vo⟩=>T.code.length-k) (0,k5) ⟨rfl,rfl,rfl,rfl,rfl,rfl,rfl,trivial⟩ ⟨ev,di.up<|Az AI,d0,am,an,oM,oM,oM,oM,oM⟩ ?_
    clear d5 d6 a3 a2 ae dd et af de df ag ah ai dg eu b1 aj a4 ak b5 d0 al am an
    rintro⟨k,vo⟩ ρ34 jq ⟨ao,a0,aa,a5,ab,ew,i6,i7,i8,i9⟩
    have ia:w.heap.size≤jq.heap.size:=ao.size
    have ja:=a5.lt
    have jb:=ab.lt
    refine fQ [0] Z ?_
    by_cases dj:(k:Int)<(((Dq T.code T.grd oT).length:Nat):Int)
    ·
      refine AJ true Z Z (A7 dj) Ac<|Aj<|A0<|Ah Z<|A4<|A0<|A5<|fQ [0,0,2,0,0] Z ?_
      have htk:=HO (mk:=Dq T.code T.grd oT) hK.form k oM
      have htl:=htk.tl
      have hle:=htk.le
      have hnl:=Fe (cs:=T.code) (oT++T.grd.map (·.reg))
      have hnl:(Dq T.code T.grd oT).length=T.code.length:=hnl
      refine Af 1 Z<|AH (v:=fr) k Mp XX Z Z aa.isSl Z sD Ac ?_
      refine Ai (p:=AE fr k 1) (.inr Z) (.bool<|(Dq T.code T.grd oT).getD k false) PZ Z (aa.getB sD) Ac<|Ae 2 Z<|fQ [0] Z<|Ae 1 Z ?_
      cases dk:((Dq T.code T.grd oT).getD k false)
      ·
        refine Ak (by first|rfl|exact zW dk)<|A4<|Ad _ [0,0] Z<|AS ((k+1:Nat):Int) Z Z (Bg oM sD) Ac<|Ae 1 Z ?_
        exact⟨(k+1,vo),_,rfl,zR,⟨ao,(by first|(rw[N1 (by assumption)];exact a0.up (Az AI))|(rw[RE (by assumption)];exact a0.up (Az AI))),aa,a5,ab,oM,oM,oM,oM,oM⟩,zD⟩
      refine Ah (by first|rfl|exact zW dk)<|fQ [0,0,0,0,0,4] Z ?_
      have htk:=HO (mk:=Dq T.code T.grd oT) hK.form k oM
      have htl:=htk.tl
      have hle:=htk.le
      have hnl:=Fe (cs:=T.code) (oT++T.grd.map (·.reg))
      have hnl:(Dq T.code T.grd oT).length=T.code.length:=hnl
      refine Af 3 Z<|AU (v:=vo) Dg Z (Cp a0).isSlS Ac ?_
      have dl:=Hn a0
      refine AH (v:=f2) k Bu BL Z Z dl.isSl Z sD Ac (RH (v:=vo) (vt:=f2) AI GS Z Z oM a0 sD Ac fun jw kj br jc c3 dm=>?_)
      have ib:jq.heap.size≤jw.heap.size:=br.size
      have dn:AD w jw:=br.below ao (fun c hc=>zH<|c3 _ hc) ao.size
      have ex:=aa.chg (oB) br fun c hc=>zH<|c3 _ hc
      have dp:=a5.chg br fun hm=>zH<|c3 _ hm
      have ey:=ab.chg br fun hm=>zH<|c3 _ hm
      refine Aj<|Ad _ [0,0,2,0,0,2,0,3,3,4,0] Z ?_
      have htk:=HO (mk:=Dq T.code T.grd oT) hK.form k oM
      have htl:=htk.tl
      have hle:=htk.le
      have hnl:=Fe (cs:=T.code) (oT++T.grd.map (·.reg))
      have hnl:(Dq T.code T.grd oT).length=T.code.length:=hnl
      refine Af 1 Z<|Ao (p:=zP w.heap.size) 1 Ck Z Z Ac<|Ai (p:=Au (zP w.heap.size) 1) (.inr Z) vtc Dx Z (dp.ldp (i:=1) sM) Ac<|Af 1 Z<|AH (v:=vtc) k Dg BI Z Z htcT.isSl Z sD Ac ?_
      obtain⟨cs45,ez,g0⟩:=htcT.get Ap Am.zero (k:=k) sD
      obtain⟨rfl,c4⟩:=DG ez
      refine AC (p:=AE vtc k 4) (.inr Z) [zI<|(T.code.getD k Am.zero).op,zI<|(T.code.getD k Am.zero).a,zI<|(T.code.getD k Am.zero).b,zI<|(T.code.getD k Am.zero).num] Bx Z (fun f1 b7=>g0 f1<|AB.of_ext []<|dn.trans b7) Z Ac<|Af 1 Z<|Ay 120 [] [] [.agg #[zI<|(T.code.getD k Am.zero).op,zI<|(T.code.getD k Am.zero).a,zI<|(T.code.getD k Am.zero).b,zI<|(T.code.getD k Am.zero).num],f2] Z Z TW Ac (Ee _ ni k (T.code.getD k Am.zero) _ _ (⟨c4.1,c4.2.1,c4.2.2.1,c4.2.2.2⟩) (Hn dm).rd1 (by exact hK.form k oM) (by rw[z6];omega)) ?_
      rintro kk jx ⟨rfl,b2,dq⟩
      refine⟨_,rfl,b2,?_⟩
      have ic:=b2.size
      have g2:=dn.trans b2
      have c5:=ex.ext (oB) b2
      have c6:=dp.ext b2
      have c7:=ey.ext b2
      have c8:=dm.ext (Az AI) b2
      refine Ct (cs:=[zI<|(AV (((DR T.code (Dq T.code T.grd oT) k).2).set k ((((DR T.code (Dq T.code T.grd oT) k).1).length:Nat):Int))<|T.code.getD k Am.zero).op,zI<|(AV (((DR T.code (Dq T.code T.grd oT) k).2).set k ((((DR T.code (Dq T.code T.grd oT) k).1).length:Nat):Int))<|T.code.getD k Am.zero).a,zI<|(AV (((DR T.code (Dq T.code T.grd oT) k).2).set k ((((DR T.code (Dq T.code T.grd oT) k).1).length:Nat):Int))<|T.code.getD k Am.zero).b,zI<|(AV (((DR T.code (Dq T.code T.grd oT) k).2).set k ((((DR T.code (Dq T.code T.grd oT) k).1).length:Nat):Int))<|T.code.getD k Am.zero).num]) (y:=AV (((DR T.code (Dq T.code T.grd oT) k).2).set k ((((DR T.code (Dq T.code T.grd oT) k).1).length:Nat):Int))<|T.code.getD k Am.zero) (B:=jx.heap.size) (U:=jx.heap.size) Ap Dg BI Z (by decide) Z (DP (x:=AV (((DR T.code (Dq T.code T.grd oT) k).2).set k ((((DR T.code (Dq T.code T.grd oT) k).1).length:Nat):Int))<|T.code.getD k Am.zero) dq) (A9 _) Ac fun k6 k7 ba jd g3=>?_
      have id:=ba.size
      have dr:=g2.trans ba
      have c9:=c5.ext (oB) ba
      have ca:=c6.ext ba
      have cb:=c7.ext ba
      have cc:=c8.ext (Az AI) ba
      refine Ga (v:=vo) (vt:=f2) (a:=k6) AI Dg BI (by decide) Z Z cc g3 oM ⟨zO,zO⟩ ⟨zO,zO⟩ oM (by unfold maxLen;omega) Ac fun k8 jy kl bs cd ds=>?_
      have ie:k7.heap.size≤jy.heap.size:=bs.size
      have g4:AD w jy:=bs.below dr (fun c hc=>zH<|cd _ hc) dr.size
      have g5:=c9.chg (oB) bs fun c hc=>zH<|cd _ hc
      have g6:=ca.chg bs fun hm=>zH<|cd _ hm
      have g7:=cb.chg bs fun hm=>zH<|cd _ hm
      exact Ae 1 Z<|Ad _ [0,0] Z<|AS ((k+1:Nat):Int) Z Z (Bg oM sD) Ac<|Ae 1 Z ⟨(k+1,k8),_,rfl,zR,⟨g4,(by first|(rw[N1 (by assumption)];exact ds.up (Az AI))|(rw[RE (by assumption)];exact ds.up (Az AI))),g5,g6,g7,oM,oM,oM,oM,oM⟩,zD⟩
    refine AJ false Z Z (A8 dj) Ac<|Aj<|A0<|Ak Z<|A6<|AA<|AA<|Ax<|fQ [2,0,0,3,4] Z ?_
    have hnl:(Dq T.code T.grd oT).length=T.code.length:=Fe _
    have hke:k=T.code.length:=by omega
    have htk:=HO (mk:=Dq T.code T.grd oT) hK.form k oM
    have htl:=htk.tl
    have hle:=htk.le
    refine AC (p:=zP w.heap.size) (.inr Z) [zI ipT,vtc,vtg,vtx] BE Z (fun f1 b7=>LD.of_box<|BX.ext (w:=jq) a5 b7) Z Ac<|Af 2 Z<|Ay 119 [] [] [.agg #[zI ipT,vtc,vtg,vtx],vo,f2] Z Z Rl Ac (Dy _ (ipT) vtc vtg vtx (T) (oT) vo _ f2 _ _hipT (htcT.ext (Aq Ap) ao) (htgT.ext (Aq As) ao) (htoT.ext g1 ao) (Cp a0).isSlS (Hn a0).rd1 (by intro j hj;have h9:=hK.gd j hj;omega) (by intro j hj;have h9:=hK.out j hj;omega) oM oM) ?_
    rintro km k9 ⟨vg52,vx52,rfl,bb,cv,cw⟩
    refine⟨_,rfl,bb,?_⟩
    have ig:=bb.size
    have dt:=ao.trans bb
    have a8:=a0.ext (Az AI) bb
    have bc:=a5.ext bb
    have bd:=ab.ext bb
    refine Bh (vs:=[zI ipT,vo,vg52,vx52]) BE Z Z (by intro u hu;simp only[ze,z2,or_false]at hu;rcases hu with rfl|rfl|rfl|rfl <;> first|exact⟨rfl,rfl⟩|exact AT (Cp a8).isSlS|exact AT cv.isSlS|exact AT cw.isSl) bd Z Z Ac fun jr be je d1=>?_
    replace d1:BX jr.heap w1.heap.size [zI ipT,vo,vg52,vx52]:=d1
    have ih:k9.heap.size≤jr.heap.size:=be.size
    have g8:AD w jr:=be.below dt (fun _ h=>zE h) dt.size
    have jf:=bc.chg be (zB ·)
    have g9:=cv.chg (An As) be fun _ h=>zA h
    have ga:=cw.chg (o1) be fun _ h=>zA h
    have gb:=CQ AI a8 be fun c hc=>zH<|Ab hc
    exact Aj<|A3<|BK (cs:=[zI ipT,vo,vg52,vx52]) Z BE Z d1 Z ⟨vo,vg52,vx52,rfl,g8,(by have h:=(((Cp gb).up<|An Ap).low (B':=w.heap.size) oM);rwa [hke]at h),(by have h:=((g9.up<|An As).low (B':=w.heap.size) oM);rwa [hke]at h),(by have h:=((ga.up o1).low (B':=w.heap.size) oM);rwa [hke]at h)⟩
  refine Ao (p:=zP w.heap.size) 1 Ck Z Z Ac<|Ai (p:=Au (zP w.heap.size) 1) (.inl Z) vtc Dx Z (a2.ldp (i:=1) sM) Ac<|AU (v:=vtc) Dg Z htcT.isSl Ac (Gd (n:=T.code.length) Bu BL Z Z Z sD Ac fun f3 ko ap gc du=>?_)
  replace ap:=ap.of_drew
  have dv:=ap.size
  have dw:=d8.trans ap
  have aq:=ae.ext (o1) ap
  have ar:=a2.ext ap
  have au:=a3.ext ap
  refine Ls (α:=Am) Ap Dg BI Ac fun ka fs b3 ge dx=>?_
  have ii:=b3.size
  have ce:=dw.trans b3
  have av:=aq.ext (o1) b3
  have a6:=ar.ext b3
  have aw:=au.ext b3
  have b6:=du.ext (o1) b3
  refine Ae 2 Z<|A0<|fQ [2,0,3,0,0] Z ?_
  have dy:=O8 (B:=w7.heap.size) (U:=fs.heap.size) dx b6 oM ⟨by first|omega|exact A9 _,by first|omega|exact A9 _,zO,zO⟩
  have hends:=av
  rw[za oM]at hends
  refine AC (p:=zP w.heap.size) (.inr Z) [zI ipT,vtc,vtg,vtx] BE Z (fun f1 b7=>LD.of_box<|BX.ext (w:=fs) a6 b7) Z Ac<|Af 1 Z<|Ay 73 [] [] [.agg #[zI ipT,vtc,vtg,vtx],ve] Z Z bR Ac (FU _ ni (ipT) vtc vtg vtx (T) (oT) ve (oT++T.grd.map (·.reg)) _hipT (htcT.ext (Aq Ap) ce) (htgT.ext (Aq As) ce) (htoT.ext g1 ce) hends.rd1 hK (by exact Pf hK)) ?_
  rintro kp jp ⟨fx,rfl,ax,d2⟩
  refine⟨_,rfl,ax,?_⟩
  have ij:=ax.size
  have gf:=ce.trans ax
  have hendsx61:=hends.ext (o1) ax
  have ay:=a6.ext ax
  have az:=aw.ext ax
  have bt:=dy.ext (Az AI) ax
  refine AU (v:=fx) Mp Z d2.isSl Ac<|Ae 1 Z<|A5 ?_
  have dz:=Dk (p':=fs.heap.size) (q':=jp.heap.size) bt<|.inl<|A9 _
  refine B8 (S:=Nat×Value) (fun⟨k,vo⟩=>([(6,vo),(35,zI (k:Int)),(1,zP w.heap.size),(2,zP w1.heap.size),(7,f3),(33,fx),(34,zI (((Dq T.code T.grd oT).length:Nat):Int))])) (fun⟨k,vo⟩ W=>AD w W∧Fr (M9 dV f3 (.bool false) fs.heap.size jp.heap.size 52 2) w7.heap.size W.heap.size W.heap vo ((DR T.code (Dq T.code T.grd oT) k).1,(DR T.code (Dq T.code T.grd oT) k).2,())∧Fr (BD rB 4) fs.heap.size jp.heap.size W.heap fx (Dq T.code T.grd oT)∧BX W.heap w.heap.size [zI ipT,vtc,vtg,vtx]∧BX W.heap w1.heap.size [zI 0,zN,zN,zN]∧k≤T.code.length∧jp.heap.size≤W.heap.size∧w.heap.size<w7.heap.size∧w1.heap.size<w7.heap.size∧w7.heap.size≤W.heap.size) (fun⟨k,vo⟩=>T.code.length-k) (0,ka) ⟨rfl,rfl,rfl,rfl,rfl,rfl,rfl,trivial⟩ ⟨gf,dz.up<|Az AI,d2,ay,az,oM,oM,oM,oM,oM⟩ ?_
  clear d5 d6 a3 a2 ae du gc ap dv dw aq ar au dx ge b3 av a6 aw b6 d2 ax ay az
  rintro⟨k,vo⟩ ρ66 js ⟨b0,a1,ac,a7,ad,gg,ik,il,im,io⟩
  have ip:w.heap.size≤js.heap.size:=b0.size
  have jg:=a7.lt
  have jh:=ad.lt
  refine fQ [0] Z ?_
  by_cases e0:(k:Int)<(((Dq T.code T.grd oT).length:Nat):Int)
  ·
    refine AJ true Z Z (A7 e0) Ac<|Aj<|A0<|Ah Z<|A4<|A0<|A5<|fQ [0,0,2,0,0] Z ?_
    have htk:=HO (mk:=Dq T.code T.grd oT) hK.form k oM
    have htl:=htk.tl
    have hle:=htk.le
    have hnl:=Fe (cs:=T.code) (oT++T.grd.map (·.reg))
    have hnl:(Dq T.code T.grd oT).length=T.code.length:=hnl
    refine Af 1 Z<|AH (v:=fx) k Mp XX Z Z ac.isSl Z sD Ac ?_
    refine Ai (p:=AE fx k 1) (.inr Z) (.bool<|(Dq T.code T.grd oT).getD k false) PZ Z (ac.getB sD) Ac<|Ae 2 Z<|fQ [0] Z<|Ae 1 Z ?_
    cases e1:((Dq T.code T.grd oT).getD k false)
    ·
      refine Ak (by first|rfl|exact zW e1)<|A4<|Ad _ [0,0] Z<|AS ((k+1:Nat):Int) Z Z (Bg oM sD) Ac<|Ae 1 Z ?_
      exact⟨(k+1,vo),_,rfl,zR,⟨b0,(by first|(rw[N1 (by assumption)];exact a1.up (Az AI))|(rw[RE (by assumption)];exact a1.up (Az AI))),ac,a7,ad,oM,oM,oM,oM,oM⟩,zD⟩
    refine Ah (by first|rfl|exact zW e1)<|fQ [0,0,0,0,0,4] Z ?_
    have htk:=HO (mk:=Dq T.code T.grd oT) hK.form k oM
    have htl:=htk.tl
    have hle:=htk.le
    have hnl:=Fe (cs:=T.code) (oT++T.grd.map (·.reg))
    have hnl:(Dq T.code T.grd oT).length=T.code.length:=hnl
    refine Af 3 Z<|AU (v:=vo) Dg Z (Cp a1).isSlS Ac ?_
    have e2:=Hn a1
    refine AH (v:=f3) k Bu BL Z Z e2.isSl Z sD Ac (RH (v:=vo) (vt:=f3) AI GS Z Z oM a1 sD Ac fun jz kq bu ji cf e3=>?_)
    have iq:js.heap.size≤jz.heap.size:=bu.size
    have e5:AD w jz:=bu.below b0 (fun c hc=>zH<|cf _ hc) b0.size
    have gh:=ac.chg (oB) bu fun c hc=>zH<|cf _ hc
    have e6:=a7.chg bu fun hm=>zH<|cf _ hm
    have gi:=ad.chg bu fun hm=>zH<|cf _ hm
    refine Aj<|Ad _ [0,0,2,0,0,2,0,3,3,4,0] Z ?_
    have htk:=HO (mk:=Dq T.code T.grd oT) hK.form k oM
    have htl:=htk.tl
    have hle:=htk.le
    have hnl:=Fe (cs:=T.code) (oT++T.grd.map (·.reg))
    have hnl:(Dq T.code T.grd oT).length=T.code.length:=hnl
    refine Af 1 Z<|Ao (p:=zP w.heap.size) 1 Ck Z Z Ac<|Ai (p:=Au (zP w.heap.size) 1) (.inr Z) vtc Dx Z (e6.ldp (i:=1) sM) Ac<|Af 1 Z<|AH (v:=vtc) k Dg BI Z Z htcT.isSl Z sD Ac ?_
    obtain⟨cs77,gj,gk⟩:=htcT.get Ap Am.zero (k:=k) sD
    obtain⟨rfl,cg⟩:=DG gj
    refine AC (p:=AE vtc k 4) (.inr Z) [zI<|(T.code.getD k Am.zero).op,zI<|(T.code.getD k Am.zero).a,zI<|(T.code.getD k Am.zero).b,zI<|(T.code.getD k Am.zero).num] Bx Z (fun f1 b7=>gk f1<|AB.of_ext []<|e5.trans b7) Z Ac<|Af 1 Z<|Ay 120 [] [] [.agg #[zI<|(T.code.getD k Am.zero).op,zI<|(T.code.getD k Am.zero).a,zI<|(T.code.getD k Am.zero).b,zI<|(T.code.getD k Am.zero).num],f3] Z Z TW Ac (Ee _ ni k (T.code.getD k Am.zero) _ _ (⟨cg.1,cg.2.1,cg.2.2.1,cg.2.2.2⟩) (Hn e3).rd1 (by exact hK.form k oM) (by rw[z6];omega)) ?_
    rintro kr k0 ⟨rfl,b4,e7⟩
    refine⟨_,rfl,b4,?_⟩
    have ir:=b4.size
    have gm:=e5.trans b4
    have ch:=gh.ext (oB) b4
    have ci:=e6.ext b4
    have cj:=gi.ext b4
    have ck:=e3.ext (Az AI) b4
    refine Ct (cs:=[zI<|(AV (((DR T.code (Dq T.code T.grd oT) k).2).set k ((((DR T.code (Dq T.code T.grd oT) k).1).length:Nat):Int))<|T.code.getD k Am.zero).op,zI<|(AV (((DR T.code (Dq T.code T.grd oT) k).2).set k ((((DR T.code (Dq T.code T.grd oT) k).1).length:Nat):Int))<|T.code.getD k Am.zero).a,zI<|(AV (((DR T.code (Dq T.code T.grd oT) k).2).set k ((((DR T.code (Dq T.code T.grd oT) k).1).length:Nat):Int))<|T.code.getD k Am.zero).b,zI<|(AV (((DR T.code (Dq T.code T.grd oT) k).2).set k ((((DR T.code (Dq T.code T.grd oT) k).1).length:Nat):Int))<|T.code.getD k Am.zero).num]) (y:=AV (((DR T.code (Dq T.code T.grd oT) k).2).set k ((((DR T.code (Dq T.code T.grd oT) k).1).length:Nat):Int))<|T.code.getD k Am.zero) (B:=k0.heap.size) (U:=k0.heap.size) Ap Dg BI Z (by decide) Z (DP (x:=AV (((DR T.code (Dq T.code T.grd oT) k).2).set k ((((DR T.code (Dq T.code T.grd oT) k).1).length:Nat):Int))<|T.code.getD k Am.zero) e7) (A9 _) Ac fun kb kc bf jj gn=>?_
    have is:=bf.size
    have e8:=gm.trans bf
    have cm:=ch.ext (oB) bf
    have cn:=ci.ext bf
    have co:=cj.ext bf
    have cp:=ck.ext (Az AI) bf
    refine Ga (v:=vo) (vt:=f3) (a:=kb) AI Dg BI (by decide) Z Z cp gn oM ⟨zO,zO⟩ ⟨zO,zO⟩ oM (by unfold maxLen;omega) Ac fun kd k1 ks bv cq e9=>?_
    have it:kc.heap.size≤k1.heap.size:=bv.size
    have go:AD w k1:=bv.below e8 (fun c hc=>zH<|cq _ hc) e8.size
    have gp:=cm.chg (oB) bv fun c hc=>zH<|cq _ hc
    have gq:=cn.chg bv fun hm=>zH<|cq _ hm
    have gr:=co.chg bv fun hm=>zH<|cq _ hm
    exact Ae 1 Z<|Ad _ [0,0] Z<|AS ((k+1:Nat):Int) Z Z (Bg oM sD) Ac<|Ae 1 Z ⟨(k+1,kd),_,rfl,zR,⟨go,(by first|(rw[N1 (by assumption)];exact e9.up (Az AI))|(rw[RE (by assumption)];exact e9.up (Az AI))),gp,gq,gr,oM,oM,oM,oM,oM⟩,zD⟩
  refine AJ false Z Z (A8 e0) Ac<|Aj<|A0<|Ak Z<|A6<|AA<|AA<|Ax<|fQ [2,0,0,3,4] Z ?_
  have hnl:(Dq T.code T.grd oT).length=T.code.length:=Fe _
  have hke:k=T.code.length:=by omega
  have htk:=HO (mk:=Dq T.code T.grd oT) hK.form k oM
  have htl:=htk.tl
  have hle:=htk.le
  refine AC (p:=zP w.heap.size) (.inr Z) [zI ipT,vtc,vtg,vtx] BE Z (fun f1 b7=>LD.of_box<|BX.ext (w:=js) a7 b7) Z Ac<|Af 2 Z<|Ay 119 [] [] [.agg #[zI ipT,vtc,vtg,vtx],vo,f3] Z Z Rl Ac (Dy _ (ipT) vtc vtg vtx (T) (oT) vo _ f3 _ _hipT (htcT.ext (Aq Ap) b0) (htgT.ext (Aq As) b0) (htoT.ext g1 b0) (Cp a1).isSlS (Hn a1).rd1 (by intro j hj;have h9:=hK.gd j hj;omega) (by intro j hj;have h9:=hK.out j hj;omega) oM oM) ?_
  rintro kt ke ⟨vg84,vx84,rfl,bg,cx,cy⟩
  refine⟨_,rfl,bg,?_⟩
  have iu:=bg.size
  have ea:=b0.trans bg
  have a9:=a1.ext (Az AI) bg
  have bh:=a7.ext bg
  have bi:=ad.ext bg
  refine Bh (vs:=[zI ipT,vo,vg84,vx84]) BE Z Z (by intro u hu;simp only[ze,z2,or_false]at hu;rcases hu with rfl|rfl|rfl|rfl <;> first|exact⟨rfl,rfl⟩|exact AT (Cp a9).isSlS|exact AT cx.isSlS|exact AT cy.isSl) bi Z Z Ac fun jt bj jk d3=>?_
  replace d3:BX jt.heap w1.heap.size [zI ipT,vo,vg84,vx84]:=d3
  have iv:ke.heap.size≤jt.heap.size:=bj.size
  have gs:AD w jt:=bj.below ea (fun _ h=>zE h) ea.size
  have jl:=bh.chg bj (zB ·)
  have gt:=cx.chg (An As) bj fun _ h=>zA h
  have gu:=cy.chg (o1) bj fun _ h=>zA h
  have gv:=CQ AI a9 bj fun c hc=>zH<|Ab hc
  exact Aj<|A3<|BK (cs:=[zI ipT,vo,vg84,vx84]) Z BE Z d3 Z ⟨vo,vg84,vx84,rfl,gs,(by have h:=(((Cp gv).up<|An Ap).low (B':=w.heap.size) oM);rwa [hke]at h),(by have h:=((gt.up<|An As).low (B':=w.heap.size) oM);rwa [hke]at h),(by have h:=((gu.up o1).low (B':=w.heap.size) oM);rwa [hke]at h)⟩
theorem MD:Maps.Keyed Tryz.prog 52:=Maps.Keyed.of_law (Go.deep_law (m:=2) zO (by kernel_rfl) (by kernel_rfl) (by kernel_rfl))
theorem ZJ:Tryz.prog.keyType 52=true:=by kernel_rfl
theorem Uz:Tryz.prog.cellsOf 52=4:=by kernel_rfl
theorem ZK:Tryz.prog.cellsOf 2=1:=by kernel_rfl
theorem Ob {d:Nat}{a:Int}(h:Bd a):Tryz.prog.keyLits (d+1) 2 [.int .i64 a]=some [.int .i64 a]:=by
  unfold Program.keyLits
  rw[u2]
  show(if _ then _ else _)=_
  rw[if_pos ⟨rfl,bG h⟩]
theorem Gr {c:Am}(h:GE c):∃l,keyOf Tryz.prog 52 (I6 c)=some l:=by
  have hf:Value.formed Tryz.prog 52 (.agg (Mf c).toArray)=true:=by
    unfold Value.formed
    rw[Tryz.underlying52]
    show((Mf c).toArray.size == Tryz.prog.cellsOf 52)=true
    rw[Uz];rfl
  have hl:∃ls,Tryz.prog.keyLits (Tryz.prog.types.size+1) 52 (Mf c)=some ls:=by
    obtain⟨m,hm⟩:∃m,Tryz.prog.types.size=m+1:=⟨_,rfl⟩
    rw[hm]
    unfold Program.keyLits
    rw[Tryz.underlying52]
    simp only
    rw[if_pos (by rw[Uz];exact⟨rfl,by kernel_rfl⟩)]
    refine⟨[.int .i64 c.op,.int .i64 c.a,.int .i64 c.b,.int .i64 c.num],?_⟩
    simp only[List.mapM_cons,List.mapM_nil,ZK,Mf,List.drop,List.take]
    rw[Ob h.1,Ob h.2.1,Ob h.2.2.1,Ob h.2.2.2]
    rfl
  obtain⟨ls,hls⟩:=hl
  refine⟨.string (keyBytes ls),?_⟩
  unfold I6 keyOf
  rw[Tryz.underlying52]
  simp only
  rw[if_pos (by rw[ZJ,hf];rfl)]
  show Option.map _ (Tryz.prog.keyLits _ 52 (Value.agg (Mf c).toArray).cells.toList)=_
  rw[show(Value.agg (Mf c).toArray).cells.toList=Mf c from rfl,hls];rfl
theorem IG {p:Prop}(h:p:=by rw[CA Am.zero oM];first|exact Of.old hSH (hbt9 (by assumption)).1 (by rw[hsw];exact(hbt9 (by assumption)).2)|(have h9:=Of.new (c:=T.code.getD k Am.zero) hSH (by rw[hsw];exact hbf9 (by assumption));rwa [hsw]at h9)):p:=h
theorem Y8 {p:Prop}(h:p:=by intro u hu;simp only[ze,z2,or_false]at hu;rcases hu with rfl|rfl|rfl|rfl <;> first|exact⟨rfl,rfl⟩):p:=h
theorem Y9 {p:Prop}(h:p:=by rw[CA Bt.zero oM];first|exact Mn.old hDD (VW (by assumption))|exact Mn.new hDD (VX (by assumption))):p:=h
theorem Fp {p:Prop}(h:p:=by unfold maxLen;omega):p:=h
theorem Jf (w:World)(ni:Nat)(ipT:Int)(vtc vtg vtx:Value)(T:Tp)(oT:Sr)(_hipT:Bd ipT)(htcT:RN [] (CK 4 Gs) w.heap vtc T.code)(htgT:RN [] (CK 2 FV) w.heap vtg T.grd)(htoT:RN [] (Bl rI) w.heap vtx oT)(hK:ND ni T oT) :
    Calls Tryz.prog 59 #[(.agg #[(zI ipT),vtc,vtg,vtx])] w (fun e w'=>∃(vC vG vO:Value) (cs1:List Am) (gs1:List Bt) (os1:Sr),e=.returned (.agg #[zI ipT,vC,vG,vO])∧AD w w'∧Fr (DB 4 Gs 52) w.heap.size w'.heap.size w'.heap vC cs1∧Fr (DB 2 FV 107) w.heap.size w'.heap.size w'.heap vG gs1∧Fr (BD rI 2) w.heap.size w'.heap.size w'.heap vO os1∧∃to1,Of T.code cs1 to1∧Mn (T.grd.map (G7 to1)) gs1∧os1=oT.map (HP to1)):=by
  refine Aw [.agg #[zI ipT,vtc,vtg,vtx]] 95 Tryz.func59 Z Z sM ?_
  have qm:AD w w:=AD.refl w
  have hl_vtx:=htoT.lenL
  unfold maxLen at hl_vtx
  have hcl:=hK.cl
  have xw:=hK.gl
  have hol:=hK.ol
  have hpos:=hK.pos
  refine fQ [3,3] Z (BC (cs:=#[zI ipT,vtc,vtg,vtx]) Z Ac fun w1 nn sj nk=>?_)
  have no:=nn.size
  have qn:=qm.trans nn
  replace nk:BX w1.heap w.heap.size [zI ipT,vtc,vtg,vtx]:=nk
  have tj:=nk.lt
  refine B9 (z:=.agg #[zI 0,zN,zN,zN]) Kb Ac fun w2 nl sk np=>?_
  have sl:=nl.size
  have sm:=qn.trans nl
  have jz:=nk.ext nl
  replace np:BX w2.heap w1.heap.size [zI 0,zN,zN,zN]:=np
  refine Aj<|fQ [3,3,3,0,0,0] Z (Ls (α:=Am) Ap Dg BI Ac fun v4 w4 k0 sn qo=>?_)
  have nq:=k0.size
  have qp:=sm.trans k0
  have k1:=jz.ext k0
  have k2:=np.ext k0
  refine Dt (rI) AN Bu BL Ac fun v5 w5 jy so qq=>?_
  have nr:=jy.size
  have qr:=qp.trans jy
  have k3:=k1.ext jy
  have k4:=k2.ext jy
  have i9:=qo.ext (An Ap) jy
  refine ZI Ac fun v6 w6 jg sp qs=>?_
  have ns:=jg.size
  have qt:=qr.trans jg
  have ia:=k3.ext jg
  have k5:=k4.ext jg
  have ib:=i9.ext (An Ap) jg
  have ic:=qq.ext (o1) jg
  refine Ae 3 Z<|A0<|fQ [0,2,0,0] Z ?_
  have nt:=ZG (U3:=w6.heap.size) ib ic (qs.up AW) oM oM ⟨zO,zO,zO⟩
  refine Ao (p:=zP w.heap.size) 1 Ck Z Z Ac<|Ai (p:=Au (zP w.heap.size) 1) (.inr Z) vtc Dx Z (ia.ldp (i:=1) sM) Ac<|AU (v:=vtc) Dg Z htcT.isSl Ac<|Ae 1 Z<|A5 ?_
  refine B8 (S:=Nat×Value×Value×List Am×Sr) (fun⟨k,vo,vt,F,to⟩=>([(3,vo),(4,vt),(21,zI (k:Int)),(1,zP w.heap.size),(2,zP w1.heap.size),(5,v6),(19,vtc),(20,zI (T.code.length:Int))])) (fun⟨k,vo,vt,F,to⟩ W=>AD w W∧Fr (M9 ZH vt v6 0 0 52 2) w2.heap.size W.heap.size W.heap vo (F,to,F)∧BX W.heap w.heap.size [zI ipT,vtc,vtg,vtx]∧BX W.heap w1.heap.size [zI 0,zN,zN,zN]∧k≤T.code.length∧Of (T.code.take k) F to∧w.heap.size<w2.heap.size∧w1.heap.size<w2.heap.size∧w2.heap.size≤W.heap.size) (fun⟨k,vo,vt,F,to⟩=>T.code.length-k) (0,v4,v5,[],[]) ⟨rfl,rfl,rfl,rfl,rfl,rfl,rfl,rfl,trivial⟩ ⟨qt,nt.up<|Az AW,ia,k5,oM,Of.nil,oM,oM,oM⟩ ?_
  clear qm sj nn no qn sk nl qo sn k0 nq qp qq so jy nr qr i9 qs sp jg ns qt ib ic
  rintro⟨k,vo,vt,F,to⟩ ρ10 f2 ⟨cc,ak,a8,al,nu,hSH,sq,sr,qu⟩
  have qv:w.heap.size≤f2.heap.size:=cc.size
  have ss:=a8.lt
  have st:=al.lt
  refine fQ [0] Z ?_
  by_cases k6:(k:Int)<(T.code.length:Int)
  ·
    refine AJ true Z Z (A7 k6) Ac<|Aj<|A0<|Ah Z<|A4<|A0<|A5<|fQ [0,2,3,4] Z<|AH (v:=vtc) k Dg BI Z Z htcT.isSl Z sD Ac ?_
    obtain⟨cs15,nv,nw⟩:=htcT.get Ap Am.zero (k:=k) sD
    obtain⟨rfl,ga⟩:=DG nv
    refine AC (p:=AE vtc k 4) (.inr Z) [zI<|(T.code.getD k Am.zero).op,zI<|(T.code.getD k Am.zero).a,zI<|(T.code.getD k Am.zero).b,zI<|(T.code.getD k Am.zero).num] Bx Z (fun tk am=>nw tk<|AB.of_ext []<|cc.trans am) Z Ac ?_
    have su:=a8.lt
    have sv:=al.lt
    refine B9 (z:=.agg #[zI 0,zI 0,zI 0,zI 0]) NS Ac fun vv eb sw jh=>?_
    have qw:=eb.size
    have k7:=cc.trans eb
    have d6:=ak.ext (Az AW) eb
    have d7:=a8.ext eb
    have d8:=al.ext eb
    replace jh:BX vv.heap f2.heap.size [zI 0,zI 0,zI 0,zI 0]:=jh
    refine Bh (vs:=[zI<|(T.code.getD k Am.zero).op,zI<|(T.code.getD k Am.zero).a,zI<|(T.code.getD k Am.zero).b,zI<|(T.code.getD k Am.zero).num]) Bx Z Z Y8 jh Z Z Ac fun uq ec sx gb=>?_
    replace gb:BX uq.heap f2.heap.size [zI ((T.code.getD k Am.zero).op),zI ((T.code.getD k Am.zero).a),zI ((T.code.getD k Am.zero).b),zI ((T.code.getD k Am.zero).num)]:=gb
    have qx:vv.heap.size≤uq.heap.size:=ec.size
    have nx:AD w uq:=ec.below k7 (fun _ h=>zE h) k7.size
    have ny:=d7.chg ec (zB ·)
    have nz:=d8.chg ec (zB ·)
    have k8:=CQ AW d6 ec fun c hc=>zH<|Ab hc
    refine Aj<|fQ [2,0,3,3,4] Z ?_
    have hsk:=hSH.kn<|BB hK.form
    have hstl:=hsk.tl
    have hsle:=hsk.le
    have hskl:(T.code.take k).length=k:=by rw[List.length_take];omega
    refine AC (p:=zP f2.heap.size) (.inr Z) [zI<|(T.code.getD k Am.zero).op,zI<|(T.code.getD k Am.zero).a,zI<|(T.code.getD k Am.zero).b,zI<|(T.code.getD k Am.zero).num] Bx Z (fun tk am=>LD.of_box<|BX.ext (w:=uq) gb am) Z Ac<|Af 1 Z<|Ay 120 [] [] [.agg #[zI<|(T.code.getD k Am.zero).op,zI<|(T.code.getD k Am.zero).a,zI<|(T.code.getD k Am.zero).b,zI<|(T.code.getD k Am.zero).num],vt] Z Z TW Ac (Ee _ ni k (T.code.getD k Am.zero) _ _ (⟨ga.1,ga.2.1,ga.2.2.1,ga.2.2.2⟩) (Hn k8).rd1 (by exact hK.form k oM) oM) ?_
    rintro xx f1 ⟨rfl,cd,a0⟩
    refine⟨_,rfl,cd,?_⟩
    have qy:=cd.size
    have o0:=nx.trans cd
    have cm:=ny.ext cd
    have cn:=nz.ext cd
    have co:=gb.ext cd
    have gc:=k8.ext (Az AW) cd
    have sy:=cm.lt
    have sz:=cn.lt
    have t0:=co.lt
    refine B9 (z:=.agg #[zI 0,zI 0,zI 0,zI 0]) NS Ac fun vw d9 t1 ji=>?_
    have qz:=d9.size
    have k9:=o0.trans d9
    have ge:=cm.ext d9
    have gf:=cn.ext d9
    have gg:=co.ext d9
    have gh:=gc.ext (Az AW) d9
    replace ji:BX vw.heap f1.heap.size [zI 0,zI 0,zI 0,zI 0]:=ji
    refine Bh (vs:=[zI<|(AV to<|T.code.getD k Am.zero).op,zI<|(AV to<|T.code.getD k Am.zero).a,zI<|(AV to<|T.code.getD k Am.zero).b,zI<|(AV to<|T.code.getD k Am.zero).num]) Bx Z Z Y8 ji Z Z Ac fun f3 da t2 a1=>?_
    replace a1:BX f3.heap f1.heap.size [zI ((AV to (T.code.getD k Am.zero)).op),zI ((AV to (T.code.getD k Am.zero)).a),zI ((AV to (T.code.getD k Am.zero)).b),zI ((AV to (T.code.getD k Am.zero)).num)]:=a1
    have r0:vw.heap.size≤f3.heap.size:=da.size
    have ay:AD w f3:=da.below k9 (fun _ h=>zE h) k9.size
    have bp:=ge.chg da (zB ·)
    have bq:=gf.chg da (zB ·)
    have ka:=gg.chg da (zB ·)
    have ed:=CQ AW gh da fun c hc=>zH<|Ab hc
    refine Aj<|A0<|fQ [0,2,0,0,0,2,0,0,0,0,2,0,2,0,0] Z<|Ao (p:=zP f1.heap.size) 0 DU Z Z Ac<|Ai (p:=Au (zP f1.heap.size) 0) (.inr Z) (zI<|(AV to<|T.code.getD k Am.zero).op) AG Z (a1.ldp (i:=0) sM) Ac ?_
    by_cases kb:(AV to (T.code.getD k Am.zero)).op=((3:Nat):Int)
    ·
      refine Av true Z Z (A7 kb) Ac<|Af 6 Z<|Ao (p:=zP f1.heap.size) 1 BW Z Z (Ag (e:=36) Z Z Z)<|Ai (p:=Au (zP f1.heap.size) 1) (.inr Z) (zI<|(AV to<|T.code.getD k Am.zero).a) AG Z (a1.ldp (i:=1) sM) (Ag (e:=36) Z Z Z)<|Ao (p:=zP f1.heap.size) 2 BU Z Z (Ag (e:=36) Z Z Z)<|Ai (p:=Au (zP f1.heap.size) 2) (.inr Z) (zI<|(AV to<|T.code.getD k Am.zero).b) AG Z (a1.ldp (i:=2) sM) (Ag (e:=36) Z Z Z) ?_
      by_cases kc:(AV to (T.code.getD k Am.zero)).b<(AV to (T.code.getD k Am.zero)).a
      ·
        refine C0 true Z Z (A7 kc) (Ag (e:=36) Z Z Z)<|Ae 1 Z<|Ah Z<|Ad _ [0,2,0,2,0,4,0,4] Z<|Ao (p:=zP f1.heap.size) 2 BU Z Z Ac<|Ai (p:=Au (zP f1.heap.size) 2) (.inr Z) (zI<|(AV to<|T.code.getD k Am.zero).b) AG Z (a1.ldp (i:=2) sM) Ac<|Ao (p:=zP f1.heap.size) 1 BW Z Z Ac<|Ai (p:=Au (zP f1.heap.size) 1) (.inr Z) (zI<|(AV to<|T.code.getD k Am.zero).a) AG Z (a1.ldp (i:=1) sM) Ac ?_
        refine Ao (p:=zP f1.heap.size) 1 BW Z Z Ac (Bn (k:=1) (w:=f3) GS Z Z ⟨rfl,rfl⟩ a1 sM Ac fun ua db t3 jj=>?_)
        replace jj:BX ua.heap f1.heap.size [zI ((AV to (T.code.getD k Am.zero)).op),zI ((AV to (T.code.getD k Am.zero)).b),zI ((AV to (T.code.getD k Am.zero)).b),zI ((AV to (T.code.getD k Am.zero)).num)]:=jj
        have r1:f3.heap.size≤ua.heap.size:=db.size
        have kd:AD w ua:=db.below ay (fun _ h=>zE h) ay.size
        have o2:=bp.chg db (zB ·)
        have o3:=bq.chg db (zB ·)
        have o4:=ka.chg db (zB ·)
        have o5:=CQ AW ed db fun c hc=>zH<|Ab hc
        refine Ao (p:=zP f1.heap.size) 2 BU Z Z Ac (Bn (k:=2) (w:=ua) GS Z Z ⟨rfl,rfl⟩ jj sM Ac fun fr dc t4 ce=>?_)
        replace ce:BX fr.heap f1.heap.size [zI ((AV to (T.code.getD k Am.zero)).op),zI ((AV to (T.code.getD k Am.zero)).b),zI ((AV to (T.code.getD k Am.zero)).a),zI ((AV to (T.code.getD k Am.zero)).num)]:=ce
        have r2:ua.heap.size≤fr.heap.size:=dc.size
        have ke:AD w fr:=dc.below kd (fun _ h=>zE h) kd.size
        have kf:=o2.chg dc (zB ·)
        have kg:=o3.chg dc (zB ·)
        have t5:=o4.chg dc (zB ·)
        have o6:=CQ AW o5 dc fun c hc=>zH<|Ab hc
        refine Aj<|fQ [0,2,2,0,0,0,0,0] Z ?_
        have hsk:=hSH.kn<|BB hK.form
        have hstl:=hsk.tl
        have hsle:=hsk.le
        have hskl:(T.code.take k).length=k:=by rw[List.length_take];omega
        have hsw:G6 (AV to (T.code.getD k Am.zero))=(⟨(AV to (T.code.getD k Am.zero)).op,(AV to (T.code.getD k Am.zero)).b,(AV to (T.code.getD k Am.zero)).a,(AV to (T.code.getD k Am.zero)).num⟩:Am):=by unfold G6;first|exact if_pos ⟨zO,zO⟩|exact(if_neg oM).trans Z
        have cp:=Dk (p':=f2.heap.size) (q':=fr.heap.size) o6<|.inl<|A9 _
        refine Af 1 Z<|AC (p:=zP f1.heap.size) (.inr Z) [zI<|(AV to<|T.code.getD k Am.zero).op,zI<|(AV to<|T.code.getD k Am.zero).b,zI<|(AV to<|T.code.getD k Am.zero).a,zI<|(AV to<|T.code.getD k Am.zero).num] Bx Z (fun tk am=>LD.of_box<|BX.ext (w:=fr) ce am) Z Ac ?_
        have kh:=Ma cp
        refine JN (c:=(⟨(AV to<|T.code.getD k Am.zero).op,(AV to<|T.code.getD k Am.zero).b,(AV to<|T.code.getD k Am.zero).a,(AV to<|T.code.getD k Am.zero).num⟩:Am)) (show Tryz.prog.underlying 174=some (.map 52 2) by kernel_rfl) MD (fun _ h=>Gr h) (Pi BL) Z Z kh ⟨(show Bd ((AV to<|T.code.getD k Am.zero).op)from a0.1),(show Bd ((AV to<|T.code.getD k Am.zero).b)from a0.2.2.1),(show Bd ((AV to<|T.code.getD k Am.zero).a)from a0.2.1),(show Bd ((AV to<|T.code.getD k Am.zero).num)from a0.2.2.2)⟩ hsk.dst oM Ac fun ub b46 r3 hbt9 hbf9=>Af 1 Z<|AO (vs:=[zI ub,.bool b46]) (zI ub) Z Z Ac<|AO (vs:=[zI ub,.bool b46]) (.bool b46) Z Z Ac<|Ae 2 Z<|A0<|A0 ?_
        refine Ad _ [0,0] Z<|Af 1 Z<|BF (!b46) Z Z Ac<|Aj ?_
        cases ki:(!b46)
        ·
          refine Ak (by first|rfl|exact zW ki)<|A4<|Ad _ [0,0,3,4,0] Z ?_
          have hsk:=hSH.kn<|BB hK.form
          have hstl:=hsk.tl
          have hsle:=hsk.le
          have hskl:(T.code.take k).length=k:=by rw[List.length_take];omega
          refine Af 2 Z (BQ (u:=zI ub) (B:=fr.heap.size) AN Bu BL Z Z (Jl fr.heap.size fr.heap.size _ _ oM) (A9 _) Ac fun x0 x1 dd t6 o7=>?_)
          have r4:=dd.size
          have kj:=ke.trans dd
          have gi:=kf.ext dd
          have gj:=kg.ext dd
          have gk:=ce.ext dd
          have ee:=cp.ext (Az AW) dd
          refine I5 (v:=vo) (vt:=vt) (a:=x0) AW Bu BL Z Z Z ee o7 oM ⟨zO,zO⟩ ⟨zO,zO⟩ oM Fp Ac fun x2 vx xy ef gm o8=>?_
          have r5:x1.heap.size≤vx.heap.size:=ef.size
          have o9:AD w vx:=ef.below kj (fun c hc=>zH<|gm _ hc) kj.size
          have oa:=gi.chg ef fun hm=>zH<|gm _ hm
          have ob:=gj.chg ef fun hm=>zH<|gm _ hm
          have t7:=gk.chg ef fun hm=>zH<|gm _ hm
          refine Ae 1 Z<|Ad _ [0,0] Z<|AS ((k+1:Nat):Int) Z Z (Bg oM sD) Ac<|Ae 1 Z ?_
          have kk:=Dk (p':=0) (q':=0) o8<|.inr<|Nat.zero_le _
          exact⟨(k+1,vo,x2,F,to++[ub]),_,rfl,zR,⟨o9,kk.up (Az AW),oa,ob,oM,IG,oM,oM,oM⟩,zD⟩
        refine Ah (by first|rfl|exact zW ki)<|fQ [0,0,0] Z ?_
        have hsk:=hSH.kn<|BB hK.form
        have hstl:=hsk.tl
        have hsle:=hsk.le
        have hskl:(T.code.take k).length=k:=by rw[List.length_take];omega
        refine Af 1 Z<|AU (v:=vo) Dg Z (Cp cp).isSlS Ac<|Ae 1 Z ?_
        letI:JR:=Qr (Pg w2.heap.size f2.heap.size f2.heap.size fr.heap.size)
        refine Jx.B7 _ [0,1,0,0,1,3,3,4,0] mixed (by kernel_rfl) ?_
        have hsk:=hSH.kn<|BB hK.form
        have hstl:=hsk.tl
        have hsle:=hsk.le
        have hskl:(T.code.take k).length=k:=by rw[List.length_take];omega
        refine Jx.j1<|Ae 1 Z<|Jx.ZU (p:=zP f1.heap.size) [zI<|(AV to<|T.code.getD k Am.zero).op,zI<|(AV to<|T.code.getD k Am.zero).b,zI<|(AV to<|T.code.getD k Am.zero).a,zI<|(AV to<|T.code.getD k Am.zero).num] Bx Z (fun wj hj=>LD.of_box<|BX.chg (w:=fr.drew) (F:=Pg w2.heap.size f2.heap.size f2.heap.size fr.heap.size) ce hj fun hm=>by have h9:=De.1 hm;omega) Z Ac<|Jx.j1<|Ae 1 Z<|Jx.j1<|Ae 1 Z ?_
        refine Jx.ZU (p:=zP f1.heap.size) [zI<|(AV to<|T.code.getD k Am.zero).op,zI<|(AV to<|T.code.getD k Am.zero).b,zI<|(AV to<|T.code.getD k Am.zero).a,zI<|(AV to<|T.code.getD k Am.zero).num] Bx Z (fun wj hj=>LD.of_box<|BX.chg (w:=fr.drew) (F:=Pg w2.heap.size f2.heap.size f2.heap.size fr.heap.size) ce hj fun hm=>by have h9:=De.1 hm;omega) Z Ac<|Jx.eY ?_
        refine Ct (cs:=[zI<|(AV to<|T.code.getD k Am.zero).op,zI<|(AV to<|T.code.getD k Am.zero).b,zI<|(AV to<|T.code.getD k Am.zero).a,zI<|(AV to<|T.code.getD k Am.zero).num]) (y:=(⟨(AV to<|T.code.getD k Am.zero).op,(AV to<|T.code.getD k Am.zero).b,(AV to<|T.code.getD k Am.zero).a,(AV to<|T.code.getD k Am.zero).num⟩:Am)) (B:=fr.heap.size) (U:=fr.heap.size) Ap Dg BI Z (by decide) Z (DP (x:=(⟨(AV to<|T.code.getD k Am.zero).op,(AV to<|T.code.getD k Am.zero).b,(AV to<|T.code.getD k Am.zero).a,(AV to<|T.code.getD k Am.zero).num⟩:Am)) ⟨(show Bd ((AV to<|T.code.getD k Am.zero).op)from a0.1),(show Bd ((AV to<|T.code.getD k Am.zero).b)from a0.2.2.1),(show Bd ((AV to<|T.code.getD k Am.zero).a)from a0.2.1),(show Bd ((AV to<|T.code.getD k Am.zero).num)from a0.2.2.2)⟩) (A9 _) Ac fun x3 x4 br t8 oc=>?_
        replace br:=br.of_drew
        have r6:=br.size
        have kl:=ke.trans br
        have gn:=kf.ext br
        have go:=kg.ext br
        have gp:=ce.ext br
        have eg:=cp.ext (Az AW) br
        refine Aj<|Jx.fV (Ga (v:=vo) (vt:=vt) (a:=x3) AW Dg BI (by decide) Z Z eg oc oM ⟨zO,zO⟩ ⟨zO,zO⟩ oM Fp Ac fun ur us xz de eh od=>?_)
        have r7:x4.heap.size≤us.heap.size:=de.size
        have km:AD w us:=de.below kl (fun c hc=>zH<|eh _ hc) kl.size
        have oe:=gn.chg de fun hm=>zH<|eh _ hm
        have og:=go.chg de fun hm=>zH<|eh _ hm
        have oh:=gp.chg de fun hm=>zH<|eh _ hm
        refine Aj ⟨de.sub fun c hc=>De.2 (by have h9:=eh _ hc;omega),?_⟩
        refine Jx.V2 Z (Pj (v:=ur) (vt:=vt) (c:=(⟨(AV to<|T.code.getD k Am.zero).op,(AV to<|T.code.getD k Am.zero).b,(AV to<|T.code.getD k Am.zero).a,(AV to<|T.code.getD k Am.zero).num⟩:Am)) (show Tryz.prog.underlying 174=some (.map 52 2) by kernel_rfl) MD (fun _ h=>Gr h) Z Z Z Z od ⟨(show Bd ((AV to<|T.code.getD k Am.zero).op)from a0.1),(show Bd ((AV to<|T.code.getD k Am.zero).b)from a0.2.2.1),(show Bd ((AV to<|T.code.getD k Am.zero).a)from a0.2.1),(show Bd ((AV to<|T.code.getD k Am.zero).num)from a0.2.2.2)⟩ (hbf9 (by assumption)) Ac fun uc y0 ei t9 gq oi=>?_)
        have r8:us.heap.size≤uc.heap.size:=ei.size
        have oj:AD w uc:=ei.below km (fun c hc=>zH<|gq _ hc) km.size
        have ok:=oe.chg ei fun hm=>zH<|gq _ hm
        have om:=og.chg ei fun hm=>zH<|gq _ hm
        have on:=oh.chg ei fun hm=>zH<|gq _ hm
        refine Ae 1 Z<|Ad _ [0,0,3,4,0] Z ?_
        have hsk:=hSH.kn<|BB hK.form
        have hstl:=hsk.tl
        have hsle:=hsk.le
        have hskl:(T.code.take k).length=k:=by rw[List.length_take];omega
        refine Af 2 Z (BQ (u:=zI (F.length:Int)) (B:=uc.heap.size) AN Bu BL Z Z (Jl uc.heap.size uc.heap.size _ _ oM) (A9 _) Ac fun x5 x6 df ta oo=>?_)
        have r9:=df.size
        have ko:=oj.trans df
        have gr:=ok.ext df
        have gs:=om.ext df
        have gt:=on.ext df
        have gu:=oi.ext (Az AW) df
        refine I5 (v:=ur) (vt:=vt) (a:=x5) AW Bu BL Z Z Z gu oo oM ⟨zO,zO⟩ ⟨zO,zO⟩ oM Fp Ac fun x7 E1 y1 ej gv oq=>?_
        have ra:x6.heap.size≤E1.heap.size:=ej.size
        have or:AD w E1:=ej.below ko (fun c hc=>zH<|gv _ hc) ko.size
        have os:=gr.chg ej fun hm=>zH<|gv _ hm
        have ot:=gs.chg ej fun hm=>zH<|gv _ hm
        have tb:=gt.chg ej fun hm=>zH<|gv _ hm
        refine Ae 1 Z<|Ad _ [0,0] Z<|AS ((k+1:Nat):Int) Z Z (Bg oM sD) Ac<|Ae 1 Z ?_
        have kp:=Dk (p':=0) (q':=0) oq<|.inr<|Nat.zero_le _
        exact⟨(k+1,ur,x7,F++[(⟨(AV to (T.code.getD k Am.zero)).op,(AV to (T.code.getD k Am.zero)).b,(AV to (T.code.getD k Am.zero)).a,(AV to (T.code.getD k Am.zero)).num⟩:Am)],to++[(F.length:Int)]),_,rfl,zR,⟨or,kp.up (Az AW),os,ot,oM,IG,oM,oM,oM⟩,zD⟩
      refine C0 false Z Z (A8 kc) (Ag (e:=36) Z Z Z)<|Ae 1 Z<|Ak Z<|A4<|fQ [0,2,2,0,0,0,0,0] Z ?_
      have hsk:=hSH.kn<|BB hK.form
      have hstl:=hsk.tl
      have hsle:=hsk.le
      have hskl:(T.code.take k).length=k:=by rw[List.length_take];omega
      have hsw:G6 (AV to (T.code.getD k Am.zero))=(⟨(AV to (T.code.getD k Am.zero)).op,(AV to (T.code.getD k Am.zero)).a,(AV to (T.code.getD k Am.zero)).b,(AV to (T.code.getD k Am.zero)).num⟩:Am):=by unfold G6;first|exact if_pos ⟨zO,zO⟩|exact(if_neg oM).trans Z
      have cq:=Dk (p':=f2.heap.size) (q':=f3.heap.size) ed<|.inl<|A9 _
      refine Af 1 Z<|AC (p:=zP f1.heap.size) (.inr Z) [zI<|(AV to<|T.code.getD k Am.zero).op,zI<|(AV to<|T.code.getD k Am.zero).a,zI<|(AV to<|T.code.getD k Am.zero).b,zI<|(AV to<|T.code.getD k Am.zero).num] Bx Z (fun tk am=>LD.of_box<|BX.ext (w:=f3) a1 am) Z Ac ?_
      have kq:=Ma cq
      refine JN (c:=(⟨(AV to<|T.code.getD k Am.zero).op,(AV to<|T.code.getD k Am.zero).a,(AV to<|T.code.getD k Am.zero).b,(AV to<|T.code.getD k Am.zero).num⟩:Am)) (show Tryz.prog.underlying 174=some (.map 52 2) by kernel_rfl) MD (fun _ h=>Gr h) (Pi BL) Z Z kq ⟨(show Bd ((AV to<|T.code.getD k Am.zero).op)from a0.1),(show Bd ((AV to<|T.code.getD k Am.zero).a)from a0.2.1),(show Bd ((AV to<|T.code.getD k Am.zero).b)from a0.2.2.1),(show Bd ((AV to<|T.code.getD k Am.zero).num)from a0.2.2.2)⟩ hsk.dst oM Ac fun ud b70 rb hbt9 hbf9=>Af 1 Z<|AO (vs:=[zI ud,.bool b70]) (zI ud) Z Z Ac<|AO (vs:=[zI ud,.bool b70]) (.bool b70) Z Z Ac<|Ae 2 Z<|A0<|A0 ?_
      refine Ad _ [0,0] Z<|Af 1 Z<|BF (!b70) Z Z Ac<|Aj ?_
      cases kr:(!b70)
      ·
        refine Ak (by first|rfl|exact zW kr)<|A4<|Ad _ [0,0,3,4,0] Z ?_
        have hsk:=hSH.kn<|BB hK.form
        have hstl:=hsk.tl
        have hsle:=hsk.le
        have hskl:(T.code.take k).length=k:=by rw[List.length_take];omega
        refine Af 2 Z (BQ (u:=zI ud) (B:=f3.heap.size) AN Bu BL Z Z (Jl f3.heap.size f3.heap.size _ _ oM) (A9 _) Ac fun x8 x9 dg tc ou=>?_)
        have rc:=dg.size
        have ks:=ay.trans dg
        have gw:=bp.ext dg
        have gx:=bq.ext dg
        have gy:=a1.ext dg
        have ek:=cq.ext (Az AW) dg
        refine I5 (v:=vo) (vt:=vt) (a:=x8) AW Bu BL Z Z Z ek ou oM ⟨zO,zO⟩ ⟨zO,zO⟩ oM Fp Ac fun xa vy y2 el gz ov=>?_
        have rd:x9.heap.size≤vy.heap.size:=el.size
        have ow:AD w vy:=el.below ks (fun c hc=>zH<|gz _ hc) ks.size
        have ox:=gw.chg el fun hm=>zH<|gz _ hm
        have oy:=gx.chg el fun hm=>zH<|gz _ hm
        have td:=gy.chg el fun hm=>zH<|gz _ hm
        refine Ae 1 Z<|Ad _ [0,0] Z<|AS ((k+1:Nat):Int) Z Z (Bg oM sD) Ac<|Ae 1 Z ?_
        have kt:=Dk (p':=0) (q':=0) ov<|.inr<|Nat.zero_le _
        exact⟨(k+1,vo,xa,F,to++[ud]),_,rfl,zR,⟨ow,kt.up (Az AW),ox,oy,oM,IG,oM,oM,oM⟩,zD⟩
      refine Ah (by first|rfl|exact zW kr)<|fQ [0,0,0] Z ?_
      have hsk:=hSH.kn<|BB hK.form
      have hstl:=hsk.tl
      have hsle:=hsk.le
      have hskl:(T.code.take k).length=k:=by rw[List.length_take];omega
      refine Af 1 Z<|AU (v:=vo) Dg Z (Cp cq).isSlS Ac<|Ae 1 Z ?_
      letI:JR:=Qr (Pg w2.heap.size f2.heap.size f2.heap.size f3.heap.size)
      refine Jx.B7 _ [0,1,0,0,1,3,3,4,0] mixed (by kernel_rfl) ?_
      have hsk:=hSH.kn<|BB hK.form
      have hstl:=hsk.tl
      have hsle:=hsk.le
      have hskl:(T.code.take k).length=k:=by rw[List.length_take];omega
      refine Jx.j1<|Ae 1 Z<|Jx.ZU (p:=zP f1.heap.size) [zI<|(AV to<|T.code.getD k Am.zero).op,zI<|(AV to<|T.code.getD k Am.zero).a,zI<|(AV to<|T.code.getD k Am.zero).b,zI<|(AV to<|T.code.getD k Am.zero).num] Bx Z (fun wj hj=>LD.of_box<|BX.chg (w:=f3.drew) (F:=Pg w2.heap.size f2.heap.size f2.heap.size f3.heap.size) a1 hj fun hm=>by have h9:=De.1 hm;omega) Z Ac<|Jx.j1<|Ae 1 Z<|Jx.j1<|Ae 1 Z ?_
      refine Jx.ZU (p:=zP f1.heap.size) [zI<|(AV to<|T.code.getD k Am.zero).op,zI<|(AV to<|T.code.getD k Am.zero).a,zI<|(AV to<|T.code.getD k Am.zero).b,zI<|(AV to<|T.code.getD k Am.zero).num] Bx Z (fun wj hj=>LD.of_box<|BX.chg (w:=f3.drew) (F:=Pg w2.heap.size f2.heap.size f2.heap.size f3.heap.size) a1 hj fun hm=>by have h9:=De.1 hm;omega) Z Ac<|Jx.eY ?_
      refine Ct (cs:=[zI<|(AV to<|T.code.getD k Am.zero).op,zI<|(AV to<|T.code.getD k Am.zero).a,zI<|(AV to<|T.code.getD k Am.zero).b,zI<|(AV to<|T.code.getD k Am.zero).num]) (y:=(⟨(AV to<|T.code.getD k Am.zero).op,(AV to<|T.code.getD k Am.zero).a,(AV to<|T.code.getD k Am.zero).b,(AV to<|T.code.getD k Am.zero).num⟩:Am)) (B:=f3.heap.size) (U:=f3.heap.size) Ap Dg BI Z (by decide) Z (DP (x:=(⟨(AV to<|T.code.getD k Am.zero).op,(AV to<|T.code.getD k Am.zero).a,(AV to<|T.code.getD k Am.zero).b,(AV to<|T.code.getD k Am.zero).num⟩:Am)) ⟨(show Bd ((AV to<|T.code.getD k Am.zero).op)from a0.1),(show Bd ((AV to<|T.code.getD k Am.zero).a)from a0.2.1),(show Bd ((AV to<|T.code.getD k Am.zero).b)from a0.2.2.1),(show Bd ((AV to<|T.code.getD k Am.zero).num)from a0.2.2.2)⟩) (A9 _) Ac fun xb xc bs te oz=>?_
      replace bs:=bs.of_drew
      have re:=bs.size
      have ku:=ay.trans bs
      have i0:=bp.ext bs
      have i1:=bq.ext bs
      have i2:=a1.ext bs
      have em:=cq.ext (Az AW) bs
      refine Aj<|Jx.fV (Ga (v:=vo) (vt:=vt) (a:=xb) AW Dg BI (by decide) Z Z em oz oM ⟨zO,zO⟩ ⟨zO,zO⟩ oM Fp Ac fun ut uu y3 dh en p0=>?_)
      have rf:xc.heap.size≤uu.heap.size:=dh.size
      have kv:AD w uu:=dh.below ku (fun c hc=>zH<|en _ hc) ku.size
      have p1:=i0.chg dh fun hm=>zH<|en _ hm
      have p2:=i1.chg dh fun hm=>zH<|en _ hm
      have p3:=i2.chg dh fun hm=>zH<|en _ hm
      refine Aj ⟨dh.sub fun c hc=>De.2 (by have h9:=en _ hc;omega),?_⟩
      refine Jx.V2 Z (Pj (v:=ut) (vt:=vt) (c:=(⟨(AV to<|T.code.getD k Am.zero).op,(AV to<|T.code.getD k Am.zero).a,(AV to<|T.code.getD k Am.zero).b,(AV to<|T.code.getD k Am.zero).num⟩:Am)) (show Tryz.prog.underlying 174=some (.map 52 2) by kernel_rfl) MD (fun _ h=>Gr h) Z Z Z Z p0 ⟨(show Bd ((AV to<|T.code.getD k Am.zero).op)from a0.1),(show Bd ((AV to<|T.code.getD k Am.zero).a)from a0.2.1),(show Bd ((AV to<|T.code.getD k Am.zero).b)from a0.2.2.1),(show Bd ((AV to<|T.code.getD k Am.zero).num)from a0.2.2.2)⟩ (hbf9 (by assumption)) Ac fun ue y4 eo tf i3 p4=>?_)
      have rg:uu.heap.size≤ue.heap.size:=eo.size
      have p5:AD w ue:=eo.below kv (fun c hc=>zH<|i3 _ hc) kv.size
      have p6:=p1.chg eo fun hm=>zH<|i3 _ hm
      have p7:=p2.chg eo fun hm=>zH<|i3 _ hm
      have p8:=p3.chg eo fun hm=>zH<|i3 _ hm
      refine Ae 1 Z<|Ad _ [0,0,3,4,0] Z ?_
      have hsk:=hSH.kn<|BB hK.form
      have hstl:=hsk.tl
      have hsle:=hsk.le
      have hskl:(T.code.take k).length=k:=by rw[List.length_take];omega
      refine Af 2 Z (BQ (u:=zI (F.length:Int)) (B:=ue.heap.size) AN Bu BL Z Z (Jl ue.heap.size ue.heap.size _ _ oM) (A9 _) Ac fun xd xe di tg p9=>?_)
      have rh:=di.size
      have kw:=p5.trans di
      have i4:=p6.ext di
      have i5:=p7.ext di
      have i6:=p8.ext di
      have i7:=p4.ext (Az AW) di
      refine I5 (v:=ut) (vt:=vt) (a:=xd) AW Bu BL Z Z Z i7 p9 oM ⟨zO,zO⟩ ⟨zO,zO⟩ oM Fp Ac fun xf vz y5 ep i8 pa=>?_
      have ri:xe.heap.size≤vz.heap.size:=ep.size
      have pb:AD w vz:=ep.below kw (fun c hc=>zH<|i8 _ hc) kw.size
      have pc:=i4.chg ep fun hm=>zH<|i8 _ hm
      have pd:=i5.chg ep fun hm=>zH<|i8 _ hm
      have th:=i6.chg ep fun hm=>zH<|i8 _ hm
      refine Ae 1 Z<|Ad _ [0,0] Z<|AS ((k+1:Nat):Int) Z Z (Bg oM sD) Ac<|Ae 1 Z ?_
      have kx:=Dk (p':=0) (q':=0) pa<|.inr<|Nat.zero_le _
      exact⟨(k+1,ut,xf,F++[(⟨(AV to (T.code.getD k Am.zero)).op,(AV to (T.code.getD k Am.zero)).a,(AV to (T.code.getD k Am.zero)).b,(AV to (T.code.getD k Am.zero)).num⟩:Am)],to++[(F.length:Int)]),_,rfl,zR,⟨pb,kx.up (Az AW),pc,pd,oM,IG,oM,oM,oM⟩,zD⟩
    refine Av false Z Z (A8 kb) Ac<|Af 1 Z<|Ao (p:=zP f1.heap.size) 0 DU Z Z (Ag (e:=31) Z Z Z)<|Ai (p:=Au (zP f1.heap.size) 0) (.inr Z) (zI<|(AV to<|T.code.getD k Am.zero).op) AG Z (a1.ldp (i:=0) sM) (Ag (e:=31) Z Z Z) ?_
    by_cases ky:(AV to (T.code.getD k Am.zero)).op=((5:Nat):Int)
    ·
      refine Av true Z Z (A7 ky) (Ag (e:=31) Z Z Z)<|Af 2 Z<|Ao (p:=zP f1.heap.size) 1 BW Z Z (Ag (e:=36) Z Z Z)<|Ai (p:=Au (zP f1.heap.size) 1) (.inr Z) (zI<|(AV to<|T.code.getD k Am.zero).a) AG Z (a1.ldp (i:=1) sM) (Ag (e:=36) Z Z Z)<|Ao (p:=zP f1.heap.size) 2 BU Z Z (Ag (e:=36) Z Z Z)<|Ai (p:=Au (zP f1.heap.size) 2) (.inr Z) (zI<|(AV to<|T.code.getD k Am.zero).b) AG Z (a1.ldp (i:=2) sM) (Ag (e:=36) Z Z Z) ?_
      by_cases kz:(AV to (T.code.getD k Am.zero)).b<(AV to (T.code.getD k Am.zero)).a
      ·
        refine C0 true Z Z (A7 kz) (Ag (e:=36) Z Z Z)<|Ae 1 Z<|Ah Z<|Ad _ [0,2,0,2,0,4,0,4] Z<|Ao (p:=zP f1.heap.size) 2 BU Z Z Ac<|Ai (p:=Au (zP f1.heap.size) 2) (.inr Z) (zI<|(AV to<|T.code.getD k Am.zero).b) AG Z (a1.ldp (i:=2) sM) Ac<|Ao (p:=zP f1.heap.size) 1 BW Z Z Ac<|Ai (p:=Au (zP f1.heap.size) 1) (.inr Z) (zI<|(AV to<|T.code.getD k Am.zero).a) AG Z (a1.ldp (i:=1) sM) Ac ?_
        refine Ao (p:=zP f1.heap.size) 1 BW Z Z Ac (Bn (k:=1) (w:=f3) GS Z Z ⟨rfl,rfl⟩ a1 sM Ac fun uf dj ti jk=>?_)
        replace jk:BX uf.heap f1.heap.size [zI ((AV to (T.code.getD k Am.zero)).op),zI ((AV to (T.code.getD k Am.zero)).b),zI ((AV to (T.code.getD k Am.zero)).b),zI ((AV to (T.code.getD k Am.zero)).num)]:=jk
        have rj:f3.heap.size≤uf.heap.size:=dj.size
        have l0:AD w uf:=dj.below ay (fun _ h=>zE h) ay.size
        have pe:=bp.chg dj (zB ·)
        have pf:=bq.chg dj (zB ·)
        have pg:=ka.chg dj (zB ·)
        have ph:=CQ AW ed dj fun c hc=>zH<|Ab hc
        refine Ao (p:=zP f1.heap.size) 2 BU Z Z Ac (Bn (k:=2) (w:=uf) GS Z Z ⟨rfl,rfl⟩ jk sM Ac fun fd az rk an=>?_)
        replace an:BX fd.heap f1.heap.size [zI ((AV to (T.code.getD k Am.zero)).op),zI ((AV to (T.code.getD k Am.zero)).b),zI ((AV to (T.code.getD k Am.zero)).a),zI ((AV to (T.code.getD k Am.zero)).num)]:=an
        have pi:uf.heap.size≤fd.heap.size:=az.size
        have id:AD w fd:=az.below l0 (fun _ h=>zE h) l0.size
        have ie:=pe.chg az (zB ·)
        have ig:=pf.chg az (zB ·)
        have rl:=pg.chg az (zB ·)
        have l1:=CQ AW ph az fun c hc=>zH<|Ab hc
        refine Aj<|fQ [0,2,2,0,0,0,0,0] Z ?_
        have hsk:=hSH.kn<|BB hK.form
        have hstl:=hsk.tl
        have hsle:=hsk.le
        have hskl:(T.code.take k).length=k:=by rw[List.length_take];omega
        have hsw:G6 (AV to (T.code.getD k Am.zero))=(⟨(AV to (T.code.getD k Am.zero)).op,(AV to (T.code.getD k Am.zero)).b,(AV to (T.code.getD k Am.zero)).a,(AV to (T.code.getD k Am.zero)).num⟩:Am):=by unfold G6;first|exact if_pos ⟨zO,zO⟩|exact(if_neg oM).trans Z
        have bk:=Dk (p':=f2.heap.size) (q':=fd.heap.size) l1<|.inl<|A9 _
        refine Af 1 Z<|AC (p:=zP f1.heap.size) (.inr Z) [zI<|(AV to<|T.code.getD k Am.zero).op,zI<|(AV to<|T.code.getD k Am.zero).b,zI<|(AV to<|T.code.getD k Am.zero).a,zI<|(AV to<|T.code.getD k Am.zero).num] Bx Z (fun tk am=>LD.of_box<|BX.ext (w:=fd) an am) Z Ac ?_
        have jl:=Ma bk
        refine JN (c:=(⟨(AV to<|T.code.getD k Am.zero).op,(AV to<|T.code.getD k Am.zero).b,(AV to<|T.code.getD k Am.zero).a,(AV to<|T.code.getD k Am.zero).num⟩:Am)) (show Tryz.prog.underlying 174=some (.map 52 2) by kernel_rfl) MD (fun _ h=>Gr h) (Pi BL) Z Z jl ⟨(show Bd ((AV to<|T.code.getD k Am.zero).op)from a0.1),(show Bd ((AV to<|T.code.getD k Am.zero).b)from a0.2.2.1),(show Bd ((AV to<|T.code.getD k Am.zero).a)from a0.2.1),(show Bd ((AV to<|T.code.getD k Am.zero).num)from a0.2.2.2)⟩ hsk.dst oM Ac fun tn b106 pj hbt9 hbf9=>Af 1 Z<|AO (vs:=[zI tn,.bool b106]) (zI tn) Z Z Ac<|AO (vs:=[zI tn,.bool b106]) (.bool b106) Z Z Ac<|Ae 2 Z<|A0<|A0 ?_
        refine Ad _ [0,0] Z<|Af 1 Z<|BF (!b106) Z Z Ac<|Aj ?_
        cases ih:(!b106)
        ·
          refine Ak (by first|rfl|exact zW ih)<|A4<|Ad _ [0,0,3,4,0] Z ?_
          have hsk:=hSH.kn<|BB hK.form
          have hstl:=hsk.tl
          have hsle:=hsk.le
          have hskl:(T.code.take k).length=k:=by rw[List.length_take];omega
          refine Af 2 Z (BQ (u:=zI tn) (B:=fd.heap.size) AN Bu BL Z Z (Jl fd.heap.size fd.heap.size _ _ oM) (A9 _) Ac fun uv uw b0 rm l2=>?_)
          have pk:=b0.size
          have ii:=id.trans b0
          have dk:=ie.ext b0
          have dl:=ig.ext b0
          have dm:=an.ext b0
          have cf:=bk.ext (Az AW) b0
          refine I5 (v:=vo) (vt:=vt) (a:=uv) AW Bu BL Z Z Z cf l2 oM ⟨zO,zO⟩ ⟨zO,zO⟩ oM Fp Ac fun ux ug xg bt cr l3=>?_
          have pl:uw.heap.size≤ug.heap.size:=bt.size
          have l4:AD w ug:=bt.below ii (fun c hc=>zH<|cr _ hc) ii.size
          have l5:=dk.chg bt fun hm=>zH<|cr _ hm
          have l6:=dl.chg bt fun hm=>zH<|cr _ hm
          have rn:=dm.chg bt fun hm=>zH<|cr _ hm
          refine Ae 1 Z<|Ad _ [0,0] Z<|AS ((k+1:Nat):Int) Z Z (Bg oM sD) Ac<|Ae 1 Z ?_
          have jm:=Dk (p':=0) (q':=0) l3<|.inr<|Nat.zero_le _
          exact⟨(k+1,vo,ux,F,to++[tn]),_,rfl,zR,⟨l4,jm.up (Az AW),l5,l6,oM,IG,oM,oM,oM⟩,zD⟩
        refine Ah (by first|rfl|exact zW ih)<|fQ [0,0,0] Z ?_
        have hsk:=hSH.kn<|BB hK.form
        have hstl:=hsk.tl
        have hsle:=hsk.le
        have hskl:(T.code.take k).length=k:=by rw[List.length_take];omega
        refine Af 1 Z<|AU (v:=vo) Dg Z (Cp bk).isSlS Ac<|Ae 1 Z ?_
        letI:JR:=Qr (Pg w2.heap.size f2.heap.size f2.heap.size fd.heap.size)
        refine Jx.B7 _ [0,1,0,0,1,3,3,4,0] mixed (by kernel_rfl) ?_
        have hsk:=hSH.kn<|BB hK.form
        have hstl:=hsk.tl
        have hsle:=hsk.le
        have hskl:(T.code.take k).length=k:=by rw[List.length_take];omega
        refine Jx.j1<|Ae 1 Z<|Jx.ZU (p:=zP f1.heap.size) [zI<|(AV to<|T.code.getD k Am.zero).op,zI<|(AV to<|T.code.getD k Am.zero).b,zI<|(AV to<|T.code.getD k Am.zero).a,zI<|(AV to<|T.code.getD k Am.zero).num] Bx Z (fun wj hj=>LD.of_box<|BX.chg (w:=fd.drew) (F:=Pg w2.heap.size f2.heap.size f2.heap.size fd.heap.size) an hj fun hm=>by have h9:=De.1 hm;omega) Z Ac<|Jx.j1<|Ae 1 Z<|Jx.j1<|Ae 1 Z ?_
        refine Jx.ZU (p:=zP f1.heap.size) [zI<|(AV to<|T.code.getD k Am.zero).op,zI<|(AV to<|T.code.getD k Am.zero).b,zI<|(AV to<|T.code.getD k Am.zero).a,zI<|(AV to<|T.code.getD k Am.zero).num] Bx Z (fun wj hj=>LD.of_box<|BX.chg (w:=fd.drew) (F:=Pg w2.heap.size f2.heap.size f2.heap.size fd.heap.size) an hj fun hm=>by have h9:=De.1 hm;omega) Z Ac<|Jx.eY ?_
        refine Ct (cs:=[zI<|(AV to<|T.code.getD k Am.zero).op,zI<|(AV to<|T.code.getD k Am.zero).b,zI<|(AV to<|T.code.getD k Am.zero).a,zI<|(AV to<|T.code.getD k Am.zero).num]) (y:=(⟨(AV to<|T.code.getD k Am.zero).op,(AV to<|T.code.getD k Am.zero).b,(AV to<|T.code.getD k Am.zero).a,(AV to<|T.code.getD k Am.zero).num⟩:Am)) (B:=fd.heap.size) (U:=fd.heap.size) Ap Dg BI Z (by decide) Z (DP (x:=(⟨(AV to<|T.code.getD k Am.zero).op,(AV to<|T.code.getD k Am.zero).b,(AV to<|T.code.getD k Am.zero).a,(AV to<|T.code.getD k Am.zero).num⟩:Am)) ⟨(show Bd ((AV to<|T.code.getD k Am.zero).op)from a0.1),(show Bd ((AV to<|T.code.getD k Am.zero).b)from a0.2.2.1),(show Bd ((AV to<|T.code.getD k Am.zero).a)from a0.2.1),(show Bd ((AV to<|T.code.getD k Am.zero).num)from a0.2.2.2)⟩) (A9 _) Ac fun uy uz aa ro l7=>?_
        replace aa:=aa.of_drew
        have pm:=aa.size
        have ij:=id.trans aa
        have dn:=ie.ext aa
        have dp:=ig.ext aa
        have dq:=an.ext aa
        have cg:=bk.ext (Az AW) aa
        refine Aj<|Jx.fV (Ga (v:=vo) (vt:=vt) (a:=uy) AW Dg BI (by decide) Z Z cg l7 oM ⟨zO,zO⟩ ⟨zO,zO⟩ oM Fp Ac fun tx ty xh b1 bu l8=>?_)
        have pn:uz.heap.size≤ty.heap.size:=b1.size
        have ik:AD w ty:=b1.below ij (fun c hc=>zH<|bu _ hc) ij.size
        have l9:=dn.chg b1 fun hm=>zH<|bu _ hm
        have la:=dp.chg b1 fun hm=>zH<|bu _ hm
        have lb:=dq.chg b1 fun hm=>zH<|bu _ hm
        refine Aj ⟨b1.sub fun c hc=>De.2 (by have h9:=bu _ hc;omega),?_⟩
        refine Jx.V2 Z (Pj (v:=tx) (vt:=vt) (c:=(⟨(AV to<|T.code.getD k Am.zero).op,(AV to<|T.code.getD k Am.zero).b,(AV to<|T.code.getD k Am.zero).a,(AV to<|T.code.getD k Am.zero).num⟩:Am)) (show Tryz.prog.underlying 174=some (.map 52 2) by kernel_rfl) MD (fun _ h=>Gr h) Z Z Z Z l8 ⟨(show Bd ((AV to<|T.code.getD k Am.zero).op)from a0.1),(show Bd ((AV to<|T.code.getD k Am.zero).b)from a0.2.2.1),(show Bd ((AV to<|T.code.getD k Am.zero).a)from a0.2.1),(show Bd ((AV to<|T.code.getD k Am.zero).num)from a0.2.2.2)⟩ (hbf9 (by assumption)) Ac fun tp xi bv rp ct lc=>?_)
        have po:ty.heap.size≤tp.heap.size:=bv.size
        have ld:AD w tp:=bv.below ik (fun c hc=>zH<|ct _ hc) ik.size
        have lf:=l9.chg bv fun hm=>zH<|ct _ hm
        have lg:=la.chg bv fun hm=>zH<|ct _ hm
        have lh:=lb.chg bv fun hm=>zH<|ct _ hm
        refine Ae 1 Z<|Ad _ [0,0,3,4,0] Z ?_
        have hsk:=hSH.kn<|BB hK.form
        have hstl:=hsk.tl
        have hsle:=hsk.le
        have hskl:(T.code.take k).length=k:=by rw[List.length_take];omega
        refine Af 2 Z (BQ (u:=zI (F.length:Int)) (B:=tp.heap.size) AN Bu BL Z Z (Jl tp.heap.size tp.heap.size _ _ oM) (A9 _) Ac fun v0 v1 b2 rq li=>?_)
        have pp:=b2.size
        have il:=ld.trans b2
        have dr:=lf.ext b2
        have ds:=lg.ext b2
        have dt:=lh.ext b2
        have du:=lc.ext (Az AW) b2
        refine I5 (v:=tx) (vt:=vt) (a:=v0) AW Bu BL Z Z Z du li oM ⟨zO,zO⟩ ⟨zO,zO⟩ oM Fp Ac fun v2 uh xj bw cu lj=>?_
        have pq:v1.heap.size≤uh.heap.size:=bw.size
        have lk:AD w uh:=bw.below il (fun c hc=>zH<|cu _ hc) il.size
        have ll:=dr.chg bw fun hm=>zH<|cu _ hm
        have lm:=ds.chg bw fun hm=>zH<|cu _ hm
        have rr:=dt.chg bw fun hm=>zH<|cu _ hm
        refine Ae 1 Z<|Ad _ [0,0] Z<|AS ((k+1:Nat):Int) Z Z (Bg oM sD) Ac<|Ae 1 Z ?_
        have jn:=Dk (p':=0) (q':=0) lj<|.inr<|Nat.zero_le _
        exact⟨(k+1,tx,v2,F++[(⟨(AV to (T.code.getD k Am.zero)).op,(AV to (T.code.getD k Am.zero)).b,(AV to (T.code.getD k Am.zero)).a,(AV to (T.code.getD k Am.zero)).num⟩:Am)],to++[(F.length:Int)]),_,rfl,zR,⟨lk,jn.up (Az AW),ll,lm,oM,IG,oM,oM,oM⟩,zD⟩
      refine C0 false Z Z (A8 kz) (Ag (e:=36) Z Z Z)<|Ae 1 Z<|Ak Z<|A4<|fQ [0,2,2,0,0,0,0,0] Z ?_
      have hsk:=hSH.kn<|BB hK.form
      have hstl:=hsk.tl
      have hsle:=hsk.le
      have hskl:(T.code.take k).length=k:=by rw[List.length_take];omega
      have hsw:G6 (AV to (T.code.getD k Am.zero))=(⟨(AV to (T.code.getD k Am.zero)).op,(AV to (T.code.getD k Am.zero)).a,(AV to (T.code.getD k Am.zero)).b,(AV to (T.code.getD k Am.zero)).num⟩:Am):=by unfold G6;first|exact if_pos ⟨zO,zO⟩|exact(if_neg oM).trans Z
      have bl:=Dk (p':=f2.heap.size) (q':=f3.heap.size) ed<|.inl<|A9 _
      refine Af 1 Z<|AC (p:=zP f1.heap.size) (.inr Z) [zI<|(AV to<|T.code.getD k Am.zero).op,zI<|(AV to<|T.code.getD k Am.zero).a,zI<|(AV to<|T.code.getD k Am.zero).b,zI<|(AV to<|T.code.getD k Am.zero).num] Bx Z (fun tk am=>LD.of_box<|BX.ext (w:=f3) a1 am) Z Ac ?_
      have jo:=Ma bl
      refine JN (c:=(⟨(AV to<|T.code.getD k Am.zero).op,(AV to<|T.code.getD k Am.zero).a,(AV to<|T.code.getD k Am.zero).b,(AV to<|T.code.getD k Am.zero).num⟩:Am)) (show Tryz.prog.underlying 174=some (.map 52 2) by kernel_rfl) MD (fun _ h=>Gr h) (Pi BL) Z Z jo ⟨(show Bd ((AV to<|T.code.getD k Am.zero).op)from a0.1),(show Bd ((AV to<|T.code.getD k Am.zero).a)from a0.2.1),(show Bd ((AV to<|T.code.getD k Am.zero).b)from a0.2.2.1),(show Bd ((AV to<|T.code.getD k Am.zero).num)from a0.2.2.2)⟩ hsk.dst oM Ac fun tq b130 pr hbt9 hbf9=>Af 1 Z<|AO (vs:=[zI tq,.bool b130]) (zI tq) Z Z Ac<|AO (vs:=[zI tq,.bool b130]) (.bool b130) Z Z Ac<|Ae 2 Z<|A0<|A0 ?_
      refine Ad _ [0,0] Z<|Af 1 Z<|BF (!b130) Z Z Ac<|Aj ?_
      cases im:(!b130)
      ·
        refine Ak (by first|rfl|exact zW im)<|A4<|Ad _ [0,0,3,4,0] Z ?_
        have hsk:=hSH.kn<|BB hK.form
        have hstl:=hsk.tl
        have hsle:=hsk.le
        have hskl:(T.code.take k).length=k:=by rw[List.length_take];omega
        refine Af 2 Z (BQ (u:=zI tq) (B:=f3.heap.size) AN Bu BL Z Z (Jl f3.heap.size f3.heap.size _ _ oM) (A9 _) Ac fun v3 v7 b3 rs ln=>?_)
        have ps:=b3.size
        have io:=ay.trans b3
        have eq:=bp.ext b3
        have er:=bq.ext b3
        have es:=a1.ext b3
        have ch:=bl.ext (Az AW) b3
        refine I5 (v:=vo) (vt:=vt) (a:=v3) AW Bu BL Z Z Z ch ln oM ⟨zO,zO⟩ ⟨zO,zO⟩ oM Fp Ac fun v8 ui xk bx cv lo=>?_
        have pt:v7.heap.size≤ui.heap.size:=bx.size
        have lp:AD w ui:=bx.below io (fun c hc=>zH<|cv _ hc) io.size
        have lq:=eq.chg bx fun hm=>zH<|cv _ hm
        have lr:=er.chg bx fun hm=>zH<|cv _ hm
        have rt:=es.chg bx fun hm=>zH<|cv _ hm
        refine Ae 1 Z<|Ad _ [0,0] Z<|AS ((k+1:Nat):Int) Z Z (Bg oM sD) Ac<|Ae 1 Z ?_
        have jp:=Dk (p':=0) (q':=0) lo<|.inr<|Nat.zero_le _
        exact⟨(k+1,vo,v8,F,to++[tq]),_,rfl,zR,⟨lp,jp.up (Az AW),lq,lr,oM,IG,oM,oM,oM⟩,zD⟩
      refine Ah (by first|rfl|exact zW im)<|fQ [0,0,0] Z ?_
      have hsk:=hSH.kn<|BB hK.form
      have hstl:=hsk.tl
      have hsle:=hsk.le
      have hskl:(T.code.take k).length=k:=by rw[List.length_take];omega
      refine Af 1 Z<|AU (v:=vo) Dg Z (Cp bl).isSlS Ac<|Ae 1 Z ?_
      letI:JR:=Qr (Pg w2.heap.size f2.heap.size f2.heap.size f3.heap.size)
      refine Jx.B7 _ [0,1,0,0,1,3,3,4,0] mixed (by kernel_rfl) ?_
      have hsk:=hSH.kn<|BB hK.form
      have hstl:=hsk.tl
      have hsle:=hsk.le
      have hskl:(T.code.take k).length=k:=by rw[List.length_take];omega
      refine Jx.j1<|Ae 1 Z<|Jx.ZU (p:=zP f1.heap.size) [zI<|(AV to<|T.code.getD k Am.zero).op,zI<|(AV to<|T.code.getD k Am.zero).a,zI<|(AV to<|T.code.getD k Am.zero).b,zI<|(AV to<|T.code.getD k Am.zero).num] Bx Z (fun wj hj=>LD.of_box<|BX.chg (w:=f3.drew) (F:=Pg w2.heap.size f2.heap.size f2.heap.size f3.heap.size) a1 hj fun hm=>by have h9:=De.1 hm;omega) Z Ac<|Jx.j1<|Ae 1 Z<|Jx.j1<|Ae 1 Z ?_
      refine Jx.ZU (p:=zP f1.heap.size) [zI<|(AV to<|T.code.getD k Am.zero).op,zI<|(AV to<|T.code.getD k Am.zero).a,zI<|(AV to<|T.code.getD k Am.zero).b,zI<|(AV to<|T.code.getD k Am.zero).num] Bx Z (fun wj hj=>LD.of_box<|BX.chg (w:=f3.drew) (F:=Pg w2.heap.size f2.heap.size f2.heap.size f3.heap.size) a1 hj fun hm=>by have h9:=De.1 hm;omega) Z Ac<|Jx.eY ?_
      refine Ct (cs:=[zI<|(AV to<|T.code.getD k Am.zero).op,zI<|(AV to<|T.code.getD k Am.zero).a,zI<|(AV to<|T.code.getD k Am.zero).b,zI<|(AV to<|T.code.getD k Am.zero).num]) (y:=(⟨(AV to<|T.code.getD k Am.zero).op,(AV to<|T.code.getD k Am.zero).a,(AV to<|T.code.getD k Am.zero).b,(AV to<|T.code.getD k Am.zero).num⟩:Am)) (B:=f3.heap.size) (U:=f3.heap.size) Ap Dg BI Z (by decide) Z (DP (x:=(⟨(AV to<|T.code.getD k Am.zero).op,(AV to<|T.code.getD k Am.zero).a,(AV to<|T.code.getD k Am.zero).b,(AV to<|T.code.getD k Am.zero).num⟩:Am)) ⟨(show Bd ((AV to<|T.code.getD k Am.zero).op)from a0.1),(show Bd ((AV to<|T.code.getD k Am.zero).a)from a0.2.1),(show Bd ((AV to<|T.code.getD k Am.zero).b)from a0.2.2.1),(show Bd ((AV to<|T.code.getD k Am.zero).num)from a0.2.2.2)⟩) (A9 _) Ac fun v9 va ab ru ls=>?_
      replace ab:=ab.of_drew
      have pu:=ab.size
      have ip:=ay.trans ab
      have et:=bp.ext ab
      have eu:=bq.ext ab
      have ev:=a1.ext ab
      have ci:=bl.ext (Az AW) ab
      refine Aj<|Jx.fV (Ga (v:=vo) (vt:=vt) (a:=v9) AW Dg BI (by decide) Z Z ci ls oM ⟨zO,zO⟩ ⟨zO,zO⟩ oM Fp Ac fun tz u0 xl b4 bz lu=>?_)
      have pv:va.heap.size≤u0.heap.size:=b4.size
      have iq:AD w u0:=b4.below ip (fun c hc=>zH<|bz _ hc) ip.size
      have lv:=et.chg b4 fun hm=>zH<|bz _ hm
      have lw:=eu.chg b4 fun hm=>zH<|bz _ hm
      have lx:=ev.chg b4 fun hm=>zH<|bz _ hm
      refine Aj ⟨b4.sub fun c hc=>De.2 (by have h9:=bz _ hc;omega),?_⟩
      refine Jx.V2 Z (Pj (v:=tz) (vt:=vt) (c:=(⟨(AV to<|T.code.getD k Am.zero).op,(AV to<|T.code.getD k Am.zero).a,(AV to<|T.code.getD k Am.zero).b,(AV to<|T.code.getD k Am.zero).num⟩:Am)) (show Tryz.prog.underlying 174=some (.map 52 2) by kernel_rfl) MD (fun _ h=>Gr h) Z Z Z Z lu ⟨(show Bd ((AV to<|T.code.getD k Am.zero).op)from a0.1),(show Bd ((AV to<|T.code.getD k Am.zero).a)from a0.2.1),(show Bd ((AV to<|T.code.getD k Am.zero).b)from a0.2.2.1),(show Bd ((AV to<|T.code.getD k Am.zero).num)from a0.2.2.2)⟩ (hbf9 (by assumption)) Ac fun tr xm c0 rv cw ly=>?_)
      have pw:u0.heap.size≤tr.heap.size:=c0.size
      have lz:AD w tr:=c0.below iq (fun c hc=>zH<|cw _ hc) iq.size
      have m0:=lv.chg c0 fun hm=>zH<|cw _ hm
      have m1:=lw.chg c0 fun hm=>zH<|cw _ hm
      have m2:=lx.chg c0 fun hm=>zH<|cw _ hm
      refine Ae 1 Z<|Ad _ [0,0,3,4,0] Z ?_
      have hsk:=hSH.kn<|BB hK.form
      have hstl:=hsk.tl
      have hsle:=hsk.le
      have hskl:(T.code.take k).length=k:=by rw[List.length_take];omega
      refine Af 2 Z (BQ (u:=zI (F.length:Int)) (B:=tr.heap.size) AN Bu BL Z Z (Jl tr.heap.size tr.heap.size _ _ oM) (A9 _) Ac fun vb vc b5 rx m3=>?_)
      have px:=b5.size
      have ir:=lz.trans b5
      have dv:=m0.ext b5
      have dw:=m1.ext b5
      have dx:=m2.ext b5
      have dy:=ly.ext (Az AW) b5
      refine I5 (v:=tz) (vt:=vt) (a:=vb) AW Bu BL Z Z Z dy m3 oM ⟨zO,zO⟩ ⟨zO,zO⟩ oM Fp Ac fun ve uj xn c1 cx m4=>?_
      have py:vc.heap.size≤uj.heap.size:=c1.size
      have m5:AD w uj:=c1.below ir (fun c hc=>zH<|cx _ hc) ir.size
      have m6:=dv.chg c1 fun hm=>zH<|cx _ hm
      have m7:=dw.chg c1 fun hm=>zH<|cx _ hm
      have ry:=dx.chg c1 fun hm=>zH<|cx _ hm
      refine Ae 1 Z<|Ad _ [0,0] Z<|AS ((k+1:Nat):Int) Z Z (Bg oM sD) Ac<|Ae 1 Z ?_
      have jq:=Dk (p':=0) (q':=0) m4<|.inr<|Nat.zero_le _
      exact⟨(k+1,tz,ve,F++[(⟨(AV to (T.code.getD k Am.zero)).op,(AV to (T.code.getD k Am.zero)).a,(AV to (T.code.getD k Am.zero)).b,(AV to (T.code.getD k Am.zero)).num⟩:Am)],to++[(F.length:Int)]),_,rfl,zR,⟨m5,jq.up (Az AW),m6,m7,oM,IG,oM,oM,oM⟩,zD⟩
    refine Av false Z Z (A8 ky) (Ag (e:=31) Z Z Z)<|Ae 8 Z<|Ak Z<|A4<|fQ [0,2,2,0,0,0,0,0] Z ?_
    have hsk:=hSH.kn<|BB hK.form
    have hstl:=hsk.tl
    have hsle:=hsk.le
    have hskl:(T.code.take k).length=k:=by rw[List.length_take];omega
    have hsw:G6 (AV to (T.code.getD k Am.zero))=(⟨(AV to (T.code.getD k Am.zero)).op,(AV to (T.code.getD k Am.zero)).a,(AV to (T.code.getD k Am.zero)).b,(AV to (T.code.getD k Am.zero)).num⟩:Am):=by unfold G6;first|exact if_pos ⟨zO,zO⟩|exact(if_neg oM).trans Z
    have bm:=Dk (p':=f2.heap.size) (q':=f3.heap.size) ed<|.inl<|A9 _
    refine Af 1 Z<|AC (p:=zP f1.heap.size) (.inr Z) [zI<|(AV to<|T.code.getD k Am.zero).op,zI<|(AV to<|T.code.getD k Am.zero).a,zI<|(AV to<|T.code.getD k Am.zero).b,zI<|(AV to<|T.code.getD k Am.zero).num] Bx Z (fun tk am=>LD.of_box<|BX.ext (w:=f3) a1 am) Z Ac ?_
    have jr:=Ma bm
    refine JN (c:=(⟨(AV to<|T.code.getD k Am.zero).op,(AV to<|T.code.getD k Am.zero).a,(AV to<|T.code.getD k Am.zero).b,(AV to<|T.code.getD k Am.zero).num⟩:Am)) (show Tryz.prog.underlying 174=some (.map 52 2) by kernel_rfl) MD (fun _ h=>Gr h) (Pi BL) Z Z jr ⟨(show Bd ((AV to<|T.code.getD k Am.zero).op)from a0.1),(show Bd ((AV to<|T.code.getD k Am.zero).a)from a0.2.1),(show Bd ((AV to<|T.code.getD k Am.zero).b)from a0.2.2.1),(show Bd ((AV to<|T.code.getD k Am.zero).num)from a0.2.2.2)⟩ hsk.dst oM Ac fun ts b154 pz hbt9 hbf9=>Af 1 Z<|AO (vs:=[zI ts,.bool b154]) (zI ts) Z Z Ac<|AO (vs:=[zI ts,.bool b154]) (.bool b154) Z Z Ac<|Ae 2 Z<|A0<|A0 ?_
    refine Ad _ [0,0] Z<|Af 1 Z<|BF (!b154) Z Z Ac<|Aj ?_
    cases is:(!b154)
    ·
      refine Ak (by first|rfl|exact zW is)<|A4<|Ad _ [0,0,3,4,0] Z ?_
      have hsk:=hSH.kn<|BB hK.form
      have hstl:=hsk.tl
      have hsle:=hsk.le
      have hskl:(T.code.take k).length=k:=by rw[List.length_take];omega
      refine Af 2 Z (BQ (u:=zI ts) (B:=f3.heap.size) AN Bu BL Z Z (Jl f3.heap.size f3.heap.size _ _ oM) (A9 _) Ac fun vf vg b6 rz m8=>?_)
      have q0:=b6.size
      have it:=ay.trans b6
      have ew:=bp.ext b6
      have ex:=bq.ext b6
      have ey:=a1.ext b6
      have cj:=bm.ext (Az AW) b6
      refine I5 (v:=vo) (vt:=vt) (a:=vf) AW Bu BL Z Z Z cj m8 oM ⟨zO,zO⟩ ⟨zO,zO⟩ oM Fp Ac fun vh uk xo c2 cy m9=>?_
      have q1:vg.heap.size≤uk.heap.size:=c2.size
      have ma:AD w uk:=c2.below it (fun c hc=>zH<|cy _ hc) it.size
      have mb:=ew.chg c2 fun hm=>zH<|cy _ hm
      have mc:=ex.chg c2 fun hm=>zH<|cy _ hm
      have s0:=ey.chg c2 fun hm=>zH<|cy _ hm
      refine Ae 1 Z<|Ad _ [0,0] Z<|AS ((k+1:Nat):Int) Z Z (Bg oM sD) Ac<|Ae 1 Z ?_
      have js:=Dk (p':=0) (q':=0) m9<|.inr<|Nat.zero_le _
      exact⟨(k+1,vo,vh,F,to++[ts]),_,rfl,zR,⟨ma,js.up (Az AW),mb,mc,oM,IG,oM,oM,oM⟩,zD⟩
    refine Ah (by first|rfl|exact zW is)<|fQ [0,0,0] Z ?_
    have hsk:=hSH.kn<|BB hK.form
    have hstl:=hsk.tl
    have hsle:=hsk.le
    have hskl:(T.code.take k).length=k:=by rw[List.length_take];omega
    refine Af 1 Z<|AU (v:=vo) Dg Z (Cp bm).isSlS Ac<|Ae 1 Z ?_
    letI:JR:=Qr (Pg w2.heap.size f2.heap.size f2.heap.size f3.heap.size)
    refine Jx.B7 _ [0,1,0,0,1,3,3,4,0] mixed (by kernel_rfl) ?_
    have hsk:=hSH.kn<|BB hK.form
    have hstl:=hsk.tl
    have hsle:=hsk.le
    have hskl:(T.code.take k).length=k:=by rw[List.length_take];omega
    refine Jx.j1<|Ae 1 Z<|Jx.ZU (p:=zP f1.heap.size) [zI<|(AV to<|T.code.getD k Am.zero).op,zI<|(AV to<|T.code.getD k Am.zero).a,zI<|(AV to<|T.code.getD k Am.zero).b,zI<|(AV to<|T.code.getD k Am.zero).num] Bx Z (fun wj hj=>LD.of_box<|BX.chg (w:=f3.drew) (F:=Pg w2.heap.size f2.heap.size f2.heap.size f3.heap.size) a1 hj fun hm=>by have h9:=De.1 hm;omega) Z Ac<|Jx.j1<|Ae 1 Z<|Jx.j1<|Ae 1 Z ?_
    refine Jx.ZU (p:=zP f1.heap.size) [zI<|(AV to<|T.code.getD k Am.zero).op,zI<|(AV to<|T.code.getD k Am.zero).a,zI<|(AV to<|T.code.getD k Am.zero).b,zI<|(AV to<|T.code.getD k Am.zero).num] Bx Z (fun wj hj=>LD.of_box<|BX.chg (w:=f3.drew) (F:=Pg w2.heap.size f2.heap.size f2.heap.size f3.heap.size) a1 hj fun hm=>by have h9:=De.1 hm;omega) Z Ac<|Jx.eY ?_
    refine Ct (cs:=[zI<|(AV to<|T.code.getD k Am.zero).op,zI<|(AV to<|T.code.getD k Am.zero).a,zI<|(AV to<|T.code.getD k Am.zero).b,zI<|(AV to<|T.code.getD k Am.zero).num]) (y:=(⟨(AV to<|T.code.getD k Am.zero).op,(AV to<|T.code.getD k Am.zero).a,(AV to<|T.code.getD k Am.zero).b,(AV to<|T.code.getD k Am.zero).num⟩:Am)) (B:=f3.heap.size) (U:=f3.heap.size) Ap Dg BI Z (by decide) Z (DP (x:=(⟨(AV to<|T.code.getD k Am.zero).op,(AV to<|T.code.getD k Am.zero).a,(AV to<|T.code.getD k Am.zero).b,(AV to<|T.code.getD k Am.zero).num⟩:Am)) ⟨(show Bd ((AV to<|T.code.getD k Am.zero).op)from a0.1),(show Bd ((AV to<|T.code.getD k Am.zero).a)from a0.2.1),(show Bd ((AV to<|T.code.getD k Am.zero).b)from a0.2.2.1),(show Bd ((AV to<|T.code.getD k Am.zero).num)from a0.2.2.2)⟩) (A9 _) Ac fun vj vk ac s1 md=>?_
    replace ac:=ac.of_drew
    have q2:=ac.size
    have iu:=ay.trans ac
    have ez:=bp.ext ac
    have g0:=bq.ext ac
    have g2:=a1.ext ac
    have ck:=bm.ext (Az AW) ac
    refine Aj<|Jx.fV (Ga (v:=vo) (vt:=vt) (a:=vj) AW Dg BI (by decide) Z Z ck md oM ⟨zO,zO⟩ ⟨zO,zO⟩ oM Fp Ac fun u1 u6 xp b7 c3 me=>?_)
    have q3:vk.heap.size≤u6.heap.size:=b7.size
    have iv:AD w u6:=b7.below iu (fun c hc=>zH<|c3 _ hc) iu.size
    have mf:=ez.chg b7 fun hm=>zH<|c3 _ hm
    have mg:=g0.chg b7 fun hm=>zH<|c3 _ hm
    have mh:=g2.chg b7 fun hm=>zH<|c3 _ hm
    refine Aj ⟨b7.sub fun c hc=>De.2 (by have h9:=c3 _ hc;omega),?_⟩
    refine Jx.V2 Z (Pj (v:=u1) (vt:=vt) (c:=(⟨(AV to<|T.code.getD k Am.zero).op,(AV to<|T.code.getD k Am.zero).a,(AV to<|T.code.getD k Am.zero).b,(AV to<|T.code.getD k Am.zero).num⟩:Am)) (show Tryz.prog.underlying 174=some (.map 52 2) by kernel_rfl) MD (fun _ h=>Gr h) Z Z Z Z me ⟨(show Bd ((AV to<|T.code.getD k Am.zero).op)from a0.1),(show Bd ((AV to<|T.code.getD k Am.zero).a)from a0.2.1),(show Bd ((AV to<|T.code.getD k Am.zero).b)from a0.2.2.1),(show Bd ((AV to<|T.code.getD k Am.zero).num)from a0.2.2.2)⟩ (hbf9 (by assumption)) Ac fun tt xq c4 s2 cz mi=>?_)
    have q4:u6.heap.size≤tt.heap.size:=c4.size
    have mj:AD w tt:=c4.below iv (fun c hc=>zH<|cz _ hc) iv.size
    have mk:=mf.chg c4 fun hm=>zH<|cz _ hm
    have ml:=mg.chg c4 fun hm=>zH<|cz _ hm
    have mm:=mh.chg c4 fun hm=>zH<|cz _ hm
    refine Ae 1 Z<|Ad _ [0,0,3,4,0] Z ?_
    have hsk:=hSH.kn<|BB hK.form
    have hstl:=hsk.tl
    have hsle:=hsk.le
    have hskl:(T.code.take k).length=k:=by rw[List.length_take];omega
    refine Af 2 Z (BQ (u:=zI (F.length:Int)) (B:=tt.heap.size) AN Bu BL Z Z (Jl tt.heap.size tt.heap.size _ _ oM) (A9 _) Ac fun vl vm b8 s3 mn=>?_)
    have q5:=b8.size
    have iw:=mj.trans b8
    have dz:=mk.ext b8
    have e0:=ml.ext b8
    have e1:=mm.ext b8
    have e2:=mi.ext (Az AW) b8
    refine I5 (v:=u1) (vt:=vt) (a:=vl) AW Bu BL Z Z Z e2 mn oM ⟨zO,zO⟩ ⟨zO,zO⟩ oM Fp Ac fun vn ul xr c5 d0 mo=>?_
    have q6:vm.heap.size≤ul.heap.size:=c5.size
    have mp:AD w ul:=c5.below iw (fun c hc=>zH<|d0 _ hc) iw.size
    have mq:=dz.chg c5 fun hm=>zH<|d0 _ hm
    have mr:=e0.chg c5 fun hm=>zH<|d0 _ hm
    have s4:=e1.chg c5 fun hm=>zH<|d0 _ hm
    refine Ae 1 Z<|Ad _ [0,0] Z<|AS ((k+1:Nat):Int) Z Z (Bg oM sD) Ac<|Ae 1 Z ?_
    have jt:=Dk (p':=0) (q':=0) mo<|.inr<|Nat.zero_le _
    exact⟨(k+1,u1,vn,F++[(⟨(AV to (T.code.getD k Am.zero)).op,(AV to (T.code.getD k Am.zero)).a,(AV to (T.code.getD k Am.zero)).b,(AV to (T.code.getD k Am.zero)).num⟩:Am)],to++[(F.length:Int)]),_,rfl,zR,⟨mp,jt.up (Az AW),mq,mr,oM,IG,oM,oM,oM⟩,zD⟩
  refine AJ false Z Z (A8 k6) Ac<|Aj<|A0<|Ak Z<|A6<|AA<|AA<|Ax<|fQ [2,0,0,3,3,4] Z ?_
  have hSA:Of T.code F to:=by have h9:=hSH;rwa [za oM]at h9
  have hsa:=hSA.kn hK.form
  have hatl:=hsa.tl
  have hall:=hsa.le
  refine AC (p:=zP w.heap.size) (.inr Z) [zI ipT,vtc,vtg,vtx] BE Z (fun tk am=>LD.of_box<|BX.ext (w:=f2) a8 am) Z Ac<|Af 2 Z<|Ay 119 [] [] [.agg #[zI ipT,vtc,vtg,vtx],vo,vt] Z Z Rl Ac (Dy _ (ipT) vtc vtg vtx (T) (oT) vo _ vt _ _hipT (htcT.ext (Aq Ap) cc) (htgT.ext (Aq As) cc) (htoT.ext g1 cc) (Cp ak).isSlS (Hn ak).rd1 (by intro j hj;have h9:=hK.gd j hj;omega) (by intro j hj;have h9:=hK.out j hj;omega) oM oM) ?_
  rintro xs fe ⟨vg177,vx177,rfl,ao,ju,jv⟩
  refine⟨_,rfl,ao,?_⟩
  have q7:=ao.size
  have ms:=cc.trans ao
  have ap:=ak.ext (Az AW) ao
  have a3:=a8.ext ao
  have a4:=al.ext ao
  have s5:=a3.lt
  have s6:=a4.lt
  refine B9 (z:=.agg #[zI 0,zN,zN,zN]) Kb Ac fun um ad mt g3=>?_
  have jw:=ad.size
  have g4:=ms.trans ad
  have a5:=ap.ext (Az AW) ad
  have aq:=a3.ext ad
  have ar:=a4.ext ad
  have au:=ju.ext (An As) ad
  have g5:=jv.ext (o1) ad
  replace g3:BX um.heap fe.heap.size [zI 0,zN,zN,zN]:=g3
  refine Bh (vs:=[zI ipT,vo,vg177,vx177]) BE Z Z (by intro u hu;simp only[ze,z2,or_false]at hu;rcases hu with rfl|rfl|rfl|rfl <;> first|exact⟨rfl,rfl⟩|exact AT (Cp a5).isSlS|exact AT au.isSlS|exact AT g5.isSl) g3 Z Z Ac fun fs ae mu g6=>?_
  replace g6:BX fs.heap fe.heap.size [zI ipT,vo,vg177,vx177]:=g6
  have q8:um.heap.size≤fs.heap.size:=ae.size
  have mv:AD w fs:=ae.below g4 (fun _ h=>zE h) g4.size
  have ix:=aq.chg ae (zB ·)
  have iy:=ar.chg ae (zB ·)
  have iz:=au.chg (An As) ae fun _ h=>zA h
  have j0:=g5.chg (o1) ae fun _ h=>zA h
  have j2:=CQ AW a5 ae fun c hc=>zH<|Ab hc
  refine Aj<|fQ [3,0] Z (Ls (α:=Bt) As Ky Ed Ac fun vp xt a6 mw j3=>?_)
  have jx:=a6.size
  have j4:=mv.trans a6
  have e3:=ix.ext a6
  have b9:=iy.ext a6
  have a9:=iz.ext (An As) a6
  have ba:=j0.ext (o1) a6
  have bb:=g6.ext a6
  have bc:=j2.ext (Az AW) a6
  refine Ae 1 Z<|A0<|fQ [0,2,0,0] Z<|Ao (p:=zP fe.heap.size) 2 DT Z Z Ac<|Ai (p:=Au (zP fe.heap.size) 2) (.inr Z) vg177 GM Z (bb.ldp (i:=2) sM) Ac<|AU (v:=vg177) Ky Z a9.isSlS Ac<|Ae 1 Z<|A5 ?_
  refine B8 (S:=Nat×Value×List Bt) (fun⟨j,vd,D⟩=>([(12,vd),(79,zI (j:Int)),(2,zP w1.heap.size),(11,zP fe.heap.size),(77,vg177),(78,zI (((T.grd.map<|G7 to).length:Nat):Int))])) (fun⟨j,vd,D⟩ W=>AD w W∧Fr (DB 2 FV 107) fs.heap.size W.heap.size W.heap vd D∧Fr (M9 ZH vt v6 0 0 52 2) w2.heap.size f2.heap.size W.heap vo (F,to,F)∧Fr (DB 2 FV 107) f2.heap.size fe.heap.size W.heap vg177 (T.grd.map<|G7 to)∧Fr (BD rI 2) f2.heap.size fe.heap.size W.heap vx177 (oT.map<|HP to)∧BX W.heap w1.heap.size [zI 0,zN,zN,zN]∧BX W.heap fe.heap.size [zI ipT,vo,vg177,vx177]∧j≤T.grd.length∧Mn ((T.grd.map<|G7 to).take j) D∧w1.heap.size<fs.heap.size∧fe.heap.size<fs.heap.size∧fs.heap.size≤W.heap.size∧w2.heap.size≤W.heap.size∧f2.heap.size≤W.heap.size) (fun⟨j,vd,D⟩=>T.grd.length-j) (0,vp,[]) ⟨rfl,rfl,rfl,rfl,rfl,rfl,trivial⟩ ⟨j4,j3.up<|An As,bc,a9,ba,b9,bb,oM,Mn.nil,oM,oM,oM,oM,oM⟩ ?_
  clear al a8 ak ao ap a3 a4 mt ad jw g4 a5 aq ar mu ae ix iy iz j0 j2 j3 mw a6 jx j4 e3 b9 a9 ba bc
  rintro⟨j,vd,D⟩ ρ190 fx ⟨d1,bn,d2,bo,d3,ai,aj,nm,hDD,q9,qa,qb,qc,qd⟩
  have qe:w.heap.size≤fx.heap.size:=d1.size
  have s7:=ai.lt
  have s8:=aj.lt
  refine fQ [0] Z ?_
  by_cases j5:(j:Int)<(((T.grd.map (G7 to)).length:Nat):Int)
  ·
    refine AJ true Z Z (A7 j5) Ac<|Aj<|A0<|Ah Z<|A4<|A0<|A5<|fQ [0,2,3,4] Z ?_
    have hgml:(T.grd.map (G7 to)).length=T.grd.length:=zg ..
    have g7:=Gq bo
    refine AH (v:=vg177) j Ky Ed Z Z g7.isSl Z sD Ac ?_
    obtain⟨cs197,mx,my⟩:=g7.get As Bt.zero (k:=j) sD
    obtain⟨rfl,j6⟩:=HN mx
    refine AC (p:=AE vg177 j 2) (.inr Z) [zI<|((T.grd.map<|G7 to).getD j Bt.zero).reg,.bool<|((T.grd.map<|G7 to).getD j Bt.zero).z] DV Z (fun tk am=>my tk<|AB.of_ext [] am) Z Ac ?_
    have s9:=ai.lt
    have sa:=aj.lt
    refine B9 (z:=.agg #[zI 0,.bool false]) Rv Ac fun un af sb g8=>?_
    have qf:=af.size
    have j7:=d1.trans af
    have c6:=bn.ext (An As) af
    have c7:=d2.ext (Az AW) af
    have c8:=bo.ext (An As) af
    have c9:=d3.ext (o1) af
    have ca:=ai.ext af
    have cb:=aj.ext af
    replace g8:BX un.heap fx.heap.size [zI 0,.bool false]:=g8
    refine Bh (vs:=[zI<|((T.grd.map<|G7 to).getD j Bt.zero).reg,.bool<|((T.grd.map<|G7 to).getD j Bt.zero).z]) DV Z Z (by intro u hu;simp only[ze,z2,or_false]at hu;rcases hu with rfl|rfl <;> first|exact⟨rfl,rfl⟩) g8 Z Z Ac fun tw ag sc d4=>?_
    replace d4:BX tw.heap fx.heap.size [zI (((T.grd.map (G7 to)).getD j Bt.zero).reg),.bool (((T.grd.map (G7 to)).getD j Bt.zero).z)]:=d4
    have qg:un.heap.size≤tw.heap.size:=ag.size
    have mz:AD w tw:=ag.below j7 (fun _ h=>zE h) j7.size
    have j8:=c6.chg (An As) ag fun _ h=>zA h
    have n0:=c8.chg (An As) ag fun _ h=>zA h
    have n1:=c9.chg (o1) ag fun _ h=>zA h
    have n2:=ca.chg ag (zB ·)
    have n3:=cb.chg ag (zB ·)
    have n4:=CQ AW c7 ag fun c hc=>zH<|Ab hc
    refine Aj<|fQ [0,2,3,0] Z<|Af 1 Z<|AC (p:=zP fx.heap.size) (.inr Z) [zI<|((T.grd.map<|G7 to).getD j Bt.zero).reg,.bool<|((T.grd.map<|G7 to).getD j Bt.zero).z] DV Z (fun tk am=>LD.of_box<|BX.ext (w:=tw) d4 am) Z Ac<|Ay 121 [] [] [vd,.agg #[zI<|((T.grd.map<|G7 to).getD j Bt.zero).reg,.bool<|((T.grd.map<|G7 to).getD j Bt.zero).z]] Z Z bX Ac (Df _ vd D ((T.grd.map<|G7 to).getD j Bt.zero) (Gq j8) j6 (by have h9:=hDD.le;rw[List.length_take]at h9;omega)) ?_
    rintro xu u7 ⟨rfl,a2⟩
    refine⟨_,rfl,a2,?_⟩
    have qh:=a2.size
    have j9:=mz.trans a2
    have bd:=j8.ext (An As) a2
    have be:=n0.ext (An As) a2
    have bf:=n1.ext (o1) a2
    have bg:=n2.ext a2
    have bh:=n3.ext a2
    have bi:=d4.ext a2
    have bj:=n4.ext (Az AW) a2
    refine BF (!(Pe ((T.grd.map<|G7 to).getD j Bt.zero) D)) Z Z Ac<|Aj ?_
    cases ja:(!(Pe ((T.grd.map (G7 to)).getD j Bt.zero) D))
    ·
      refine Ak (by first|rfl|exact zW ja)<|A4<|Ad _ [0,0] Z<|AS ((j+1:Nat):Int) Z Z (Bg oM sD) Ac<|Ae 1 Z ?_
      exact⟨(j+1,vd,D),_,rfl,zR,⟨j9,bd.up (An As),bj,be,bf,bg,bh,oM,Y9,oM,oM,oM,oM,oM⟩,zD⟩
    refine Ah (by first|rfl|exact zW ja)<|Ad _ [0,2,3,4,0] Z ?_
    have hdl:=hDD.le
    rw[List.length_take]at hdl
    refine Af 1 Z<|AC (p:=zP fx.heap.size) (.inr Z) [zI<|((T.grd.map<|G7 to).getD j Bt.zero).reg,.bool<|((T.grd.map<|G7 to).getD j Bt.zero).z] DV Z (fun tk am=>LD.of_box<|BX.ext (w:=u7) bi am) Z Ac (Ct (cs:=[zI<|((T.grd.map<|G7 to).getD j Bt.zero).reg,.bool<|((T.grd.map<|G7 to).getD j Bt.zero).z]) (y:=(T.grd.map<|G7 to).getD j Bt.zero) (B:=u7.heap.size) (U:=u7.heap.size) As Ky Ed Z (by decide) Z (PF (x:=(T.grd.map<|G7 to).getD j Bt.zero) j6) (A9 _) Ac fun vq vr a7 sd n5=>?_)
    have qi:=a7.size
    have jb:=j9.trans a7
    have e4:=bd.ext (An As) a7
    have e5:=be.ext (An As) a7
    have e6:=bf.ext (o1) a7
    have e7:=bg.ext a7
    have e8:=bh.ext a7
    have e9:=bi.ext a7
    have ea:=bj.ext (Az AW) a7
    refine HE (v:=vd) (a:=vq) As Ky Ed Z (by decide) Z Z e4 oM n5 oM oM oM Fp Ac fun vu uo xv ah av n6=>?_
    have qj:vr.heap.size≤uo.heap.size:=ah.size
    have n7:AD w uo:=ah.below jb (fun c hc=>zH<|av _ hc) jb.size
    have n8:=e5.chg (An As) ah fun c hc=>zH<|av _ hc
    have n9:=e6.chg (o1) ah fun c hc=>zH<|av _ hc
    have na:=e7.chg ah fun hm=>zH<|av _ hm
    have nb:=e8.chg ah fun hm=>zH<|av _ hm
    have se:=e9.chg ah fun hm=>zH<|av _ hm
    have nc:=CQ AW ea ah fun c hc=>zH<|av _ hc
    refine Ae 1 Z<|Ad _ [0,0] Z<|AS ((j+1:Nat):Int) Z Z (Bg oM sD) Ac<|Ae 1 Z ?_
    exact⟨(j+1,vu,D++[(T.grd.map (G7 to)).getD j Bt.zero]),_,rfl,zR,⟨n7,n6.up (An As),nc,n8,n9,na,nb,oM,Y9,oM,oM,oM,oM,oM⟩,zD⟩
  refine AJ false Z Z (A8 j5) Ac<|Aj<|A0<|Ak Z<|A6<|AA<|AA<|Ax<|fQ [0,0,4] Z ?_
  have hgml:(T.grd.map (G7 to)).length=T.grd.length:=zg ..
  refine Af 1 Z<|Ao (p:=zP fe.heap.size) 2 DT Z Z Ac (Bn (k:=2) (w:=fx) Zm Z Z (AT bn.isSlS) aj sM Ac fun tu aw sf d5=>?_)
  replace d5:BX tu.heap fe.heap.size [zI ipT,vo,vd,vx177]:=d5
  have qk:fx.heap.size≤tu.heap.size:=aw.size
  have jc:AD w tu:=aw.below d1 (fun _ h=>zE h) d1.size
  have jd:=bn.chg (An As) aw fun _ h=>zA h
  have nd:=bo.chg (An As) aw fun _ h=>zA h
  have je:=d3.chg (o1) aw fun _ h=>zA h
  have ne:=ai.chg aw (zB ·)
  have jf:=CQ AW d2 aw fun c hc=>zH<|Ab hc
  refine Aj<|fQ [2,4] Z<|AC (p:=zP fe.heap.size) (.inr Z) [zI ipT,vo,vd,vx177] BE Z (fun tk am=>LD.of_box<|BX.ext (w:=tu) d5 am) Z Ac (Bh (vs:=[zI ipT,vo,vd,vx177]) BE Z Z (by intro u hu;simp only[ze,z2,or_false]at hu;rcases hu with rfl|rfl|rfl|rfl <;> first|exact⟨rfl,rfl⟩|exact AT (Cp jf).isSlS|exact AT jd.isSlS|exact AT je.isSl) ne Z Z Ac fun u8 ax sg g9=>?_)
  replace g9:BX u8.heap w1.heap.size [zI ipT,vo,vd,vx177]:=g9
  have ql:tu.heap.size≤u8.heap.size:=ax.size
  have nf:AD w u8:=ax.below jc (fun _ h=>zE h) jc.size
  have ng:=jd.chg (An As) ax fun _ h=>zA h
  have sh:=nd.chg (An As) ax fun _ h=>zA h
  have nh:=je.chg (o1) ax fun _ h=>zA h
  have si:=d5.chg ax (zB ·)
  have nj:=CQ AW jf ax fun c hc=>zH<|Ab hc
  exact Aj<|A3<|BK (cs:=[zI ipT,vo,vd,vx177]) Z BE Z g9 Z ⟨vo,vd,vx177,F,D,oT.map<|HP to,rfl,nf,(by exact(((Cp nj).up<|An Ap).low (B':=w.heap.size) oM)),(by exact((ng.up<|An As).low (B':=w.heap.size) oM)),(by exact((nh.up o1).low (B':=w.heap.size) oM)),(by exact⟨to,hSA,(by have h9:=hDD;rwa [za oM]at h9),rfl⟩)⟩
theorem Hz (w:World)(ni:Nat)(ipT:Int)(vtc vtg vtx:Value)(T:Tp)(oT:Sr)(_hipT:Bd ipT)(htcT:RN [] (CK 4 Gs) w.heap vtc T.code)(htgT:RN [] (CK 2 FV) w.heap vtg T.grd)(htoT:RN [] (Bl rI) w.heap vtx oT)(hK:ND ni T oT) :
    Calls Tryz.prog 57 #[(.agg #[(zI ipT),vtc,vtg,vtx])] w (fun e w'=>∃(vC vG vO:Value) (cs1:List Am) (gs1:List Bt) (os1:Sr),e=.returned (.agg #[zI ipT,vC,vG,vO])∧AD w w'∧Fr (DB 4 Gs 52) w.heap.size w'.heap.size w'.heap vC cs1∧Fr (DB 2 FV 107) w.heap.size w'.heap.size w'.heap vG gs1∧Fr (BD rI 2) w.heap.size w'.heap.size w'.heap vO os1∧NO T.code T.grd oT cs1 gs1 os1):=by
  refine Aw [.agg #[zI ipT,vtc,vtg,vtx]] 7 Tryz.func57 Z Z sM ?_
  have b7:AD w w:=AD.refl w
  have hl_vtx:=htoT.lenL
  unfold maxLen at hl_vtx
  refine fQ [3,3] Z (BC (cs:=#[zI ipT,vtc,vtg,vtx]) Z Ac fun w1 b5 bo ax=>?_)
  have b8:=b5.size
  have b9:=b7.trans b5
  replace ax:BX w1.heap w.heap.size [zI ipT,vtc,vtg,vtx]:=ax
  have bp:=ax.lt
  refine B9 (z:=.agg #[zI 0,zN,zN,zN]) Kb Ac fun w2 az bq b0=>?_
  have ba:=az.size
  have ay:=b9.trans az
  have a2:=ax.ext az
  replace b0:BX w2.heap w1.heap.size [zI 0,zN,zN,zN]:=b0
  refine Aj<|fQ [2,3,3,3,4] Z<|AC (p:=zP w.heap.size) (.inr Z) [zI ipT,vtc,vtg,vtx] BE Z (fun a7 bb=>LD.of_box<|BX.ext (w:=w2) a2 bb) Z Ac<|Ay 58 [] [] [.agg #[zI ipT,vtc,vtg,vtx]] Z Z ft Ac (Je _ ni (ipT) vtc vtg vtx T oT _hipT (htcT.ext (Aq Ap) ay) (htgT.ext (Aq As) ay) (htoT.ext g1 ay) hK) ?_
  rintro e4 w4 ⟨a5,vg4,vx4,rfl,ad,ae,af,ag⟩
  refine⟨_,rfl,ad,?_⟩
  have bc:=ad.size
  have bd:=ay.trans ad
  have ai:=b0.ext ad
  refine Ay 59 [] [] [.agg #[zI ipT,a5,vg4,vx4]] Z Z fu Ac (Jf _ ni (ipT) a5 vg4 vx4 (⟨BH T.code,T.grd,[]⟩) oT _hipT (Ez ae) (Gq af) (I4 ag) hK.fd) ?_
  rintro e5 w5 ⟨a6,vg5,vx5,cs5,gs5,os5,rfl,a3,aj,ak,al,to5,am,an,rfl⟩
  refine⟨_,rfl,a3,?_⟩
  have be:=a3.size
  have bf:=bd.trans a3
  have ap:=ai.ext a3
  refine Ay 60 [] [] [.agg #[zI ipT,a6,vg5,vx5]] Z Z fv Ac (Iu _ ni (ipT) a6 vg5 vx5 (⟨cs5,gs5,[]⟩) (oT.map<|HP to5) _hipT (Ez aj) (Gq ak) (I4 al) (by exact hK.fd.sh am an)) ?_
  rintro e6 w6 ⟨a4,vg6,vx6,rfl,a1,aq,ar,au⟩
  refine⟨_,rfl,a1,?_⟩
  have bg:=a1.size
  have b6:=bf.trans a1
  have aw:=ap.ext a1
  refine Bh (vs:=[zI ipT,a4,vg6,vx6]) BE Z Z (by intro u hu;simp only[ze,z2,or_false]at hu;rcases hu with rfl|rfl|rfl|rfl <;> first|exact⟨rfl,rfl⟩|exact AT aq.isSlS|exact AT ar.isSlS|exact AT au.isSl) aw Z Z Ac fun w7 a0 br b1=>?_
  replace b1:BX w7.heap w1.heap.size [zI ipT,a4,vg6,vx6]:=b1
  have bh:w6.heap.size≤w7.heap.size:=a0.size
  have bi:AD w w7:=a0.below b6 (fun _ h=>zE h) b6.size
  have b2:=aq.chg (An Ap) a0 fun _ h=>zA h
  have b3:=ar.chg (An As) a0 fun _ h=>zA h
  have b4:=au.chg (o1) a0 fun _ h=>zA h
  exact Aj<|A3<|BK (cs:=[zI ipT,a4,vg6,vx6]) Z BE Z b1 Z ⟨a4,vg6,vx6,(DR cs5 (Dq cs5 gs5<|oT.map<|HP to5) cs5.length).1,gs5.map (G7 (DR cs5 (Dq cs5 gs5<|oT.map<|HP to5) cs5.length).2),(oT.map<|HP to5).map (HP (DR cs5 (Dq cs5 gs5<|oT.map<|HP to5) cs5.length).2),rfl,bi,(by exact((b2.up<|An Ap).low (B':=w.heap.size) oM)),(by exact((b3.up<|An As).low (B':=w.heap.size) oM)),(by exact((b4.up o1).low (B':=w.heap.size) oM)),(by exact VJ am an)⟩
theorem Mc (w:World)(a:Sr)(ipT:Int)(vtc vtg vtx:Value)(T:Tp)(oT:Sr)(_hipT:Bd ipT)(htcT:RN [] (CK 4 Gs) w.heap vtc T.code)(htgT:RN [] (CK 2 FV) w.heap vtg T.grd)(htoT:RN [] (Bl rI) w.heap vtx oT)(hip:ipT=(a.length:Int))(hR:Iz a T oT) :
    Calls Tryz.prog 56 #[(.agg #[(zI ipT),vtc,vtg,vtx]),.func (.func 57) #[] #[]] w (fun e w'=>∃(vC vG vO:Value) (cs1:List Am) (gs1:List Bt) (os1:Sr),e=.returned (.tuple #[.agg #[zI ipT,vC,vG,vO],zI 0])∧AD w w'∧Fr (DB 4 Gs 52) w.heap.size w'.heap.size w'.heap vC cs1∧Fr (DB 2 FV 107) w.heap.size w'.heap.size w'.heap vG gs1∧Fr (BD rI 2) w.heap.size w'.heap.size w'.heap vO os1∧NO T.code T.grd oT cs1 gs1 os1):=by
  refine Aw [.agg #[zI ipT,vtc,vtg,vtx],.func (.func 57) #[] #[]] 13 Tryz.func56 Z Z sM ?_
  have am:AD w w:=AD.refl w
  have hl_vtx:=htoT.lenL
  unfold maxLen at hl_vtx
  have hK:=hR.k
  have hni:=hK.nb
  have hcl:=hK.cl
  have b3:=hK.gl
  have hol:=hK.ol
  have hpos:=hK.pos
  refine fQ [3,3,0] Z (BC (cs:=#[zI ipT,vtc,vtg,vtx]) Z Ac fun w1 ak ay ab=>?_)
  have an:=ak.size
  have ao:=am.trans ak
  replace ab:BX w1.heap w.heap.size [zI ipT,vtc,vtg,vtx]:=ab
  have az:=ab.lt
  refine B9 (z:=.agg #[zI 0,zN,zN,zN]) Kb Ac fun w2 ae b0 af=>?_
  have ap:=ae.size
  have ac:=ao.trans ae
  have a0:=ab.ext ae
  replace af:BX w2.heap w1.heap.size [zI 0,zN,zN,zN]:=af
  refine Ae 1 Z<|A0<|fQ [2,3,0] Z<|AC (p:=zP w.heap.size) (.inr Z) [zI ipT,vtc,vtg,vtx] BE Z (fun b2 ag=>LD.of_box<|BX.ext (w:=w2) a0 ag) Z Ac<|Ay 71 [] [] [.agg #[zI ipT,vtc,vtg,vtx]] Z Z bQ Ac (GQ _ a (ipT) vtc vtg vtx (T) (oT) _hipT (htcT.ext (Aq Ap) ac) (htgT.ext (Aq As) ac) (htoT.ext g1 ac) oM hR) ?_
  rintro e4 w4 ⟨rfl,a3⟩
  refine⟨_,rfl,a3,?_⟩
  have aq:=a3.size
  have ad:=ac.trans a3
  have a1:=a0.ext a3
  have a4:=af.ext a3
  refine BF false Z Z Ac<|Aj<|Ak Z<|A4<|fQ [0,2,3,4,0] Z<|Af 1 Z<|AC (p:=zP w.heap.size) (.inr Z) [zI ipT,vtc,vtg,vtx] BE Z (fun b2 ag=>LD.of_box<|BX.ext (w:=w4) a1 ag) Z Ac<|Ay 57 [] [] [.agg #[zI ipT,vtc,vtg,vtx]] Z Z fq Ac (Hz _ a.length (ipT) vtc vtg vtx T oT _hipT (htcT.ext (Aq Ap) ad) (htgT.ext (Aq As) ad) (htoT.ext g1 ad) hK) ?_
  rintro e5 w5 ⟨a9,vg5,vx5,cs5,gs5,os5,rfl,a5,a6,a7,a8,ah⟩
  refine⟨_,rfl,a5,?_⟩
  have ar:=a5.size
  have al:=ad.trans a5
  have aa:=a4.ext a5
  refine Bh (vs:=[zI ipT,a9,vg5,vx5]) BE Z Z (by intro u hu;simp only[ze,z2,or_false]at hu;rcases hu with rfl|rfl|rfl|rfl <;> first|exact⟨rfl,rfl⟩|exact AT a6.isSlS|exact AT a7.isSlS|exact AT a8.isSl) aa Z Z Ac fun w6 a2 b1 ai=>?_
  replace ai:BX w6.heap w1.heap.size [zI ipT,a9,vg5,vx5]:=ai
  have au:w5.heap.size≤w6.heap.size:=a2.size
  have av:AD w w6:=a2.below al (fun _ h=>zE h) al.size
  have aw:=a6.chg (An Ap) a2 fun _ h=>zA h
  have ax:=a7.chg (An As) a2 fun _ h=>zA h
  have aj:=a8.chg (o1) a2 fun _ h=>zA h
  exact Ae 1 Z<|A3<|GD (t0:=5) (ts:=[]) (cs:=[zI ipT,a9,vg5,vx5]) [zI ((0:Nat):Int)] Z BE Z ai Z Z ⟨a9,vg5,vx5,cs5,gs5,os5,rfl,av,(aw.up<|An Ap).low (B':=w.heap.size) oM,(ax.up<|An As).low (B':=w.heap.size) oM,(aj.up o1).low (B':=w.heap.size) oM,ah⟩
theorem Fq (w:World)(a:Sr)(ipT:Int)(vtc vtg vtx:Value)(T:Tp)(oT:Sr)(_hipT:Bd ipT)(htcT:RN [] (CK 4 Gs) w.heap vtc T.code)(htgT:RN [] (CK 2 FV) w.heap vtg T.grd)(htoT:RN [] (Bl rI) w.heap vtx oT)(hip:ipT=(a.length:Int))(hR:Iz a T oT) :
    Calls Tryz.prog 12 #[(.agg #[(zI ipT),vtc,vtg,vtx])] w (fun e w'=>∃(vC vG vO:Value) (cs1:List Am) (gs1:List Bt) (os1:Sr),e=.returned (.tuple #[.agg #[zI ipT,vC,vG,vO],zI 0])∧AD w w'∧Fr (DB 4 Gs 52) w.heap.size w'.heap.size w'.heap vC cs1∧Fr (DB 2 FV 107) w.heap.size w'.heap.size w'.heap vG gs1∧Fr (BD rI 2) w.heap.size w'.heap.size w'.heap vO os1∧NO T.code T.grd oT cs1 gs1 os1):=by
  refine Aw [.agg #[zI ipT,vtc,vtg,vtx]] 8 Tryz.func12 Z Z sM ?_
  have ag:AD w w:=AD.refl w
  have hl_vtx:=htoT.lenL
  unfold maxLen at hl_vtx
  have hK:=hR.k
  have hni:=hK.nb
  have hcl:=hK.cl
  have ax:=hK.gl
  have hol:=hK.ol
  have hpos:=hK.pos
  refine fQ [3,3,0] Z (BC (cs:=#[zI ipT,vtc,vtg,vtx]) Z Ac fun w1 ae ar a8=>?_)
  have ah:=ae.size
  have ai:=ag.trans ae
  replace a8:BX w1.heap w.heap.size [zI ipT,vtc,vtg,vtx]:=a8
  have au:=a8.lt
  refine B9 (z:=.agg #[zI 0,zN,zN,zN]) Kb Ac fun w2 aa av ab=>?_
  have aj:=aa.size
  have a9:=ai.trans aa
  have a0:=a8.ext aa
  replace ab:BX w2.heap w1.heap.size [zI 0,zN,zN,zN]:=ab
  refine Ae 1 Z<|fQ [2,3,0,0,4,0] Z<|AC (p:=zP w.heap.size) (.inr Z) [zI ipT,vtc,vtg,vtx] BE Z (fun ay ak=>LD.of_box<|BX.ext (w:=w2) a0 ak) Z Ac<|Ay 56 [] [] [.agg #[zI ipT,vtc,vtg,vtx],.func (.func 57) #[] #[]] Z Z fp Ac (Mc _ a (ipT) vtc vtg vtx T oT _hipT (htcT.ext (Aq Ap) a9) (htgT.ext (Aq As) a9) (htoT.ext g1 a9) hip hR) ?_
  rintro e4 w4 ⟨a6,vg4,vx4,cs4,gs4,os4,rfl,a2,a3,a4,a5,ac⟩
  refine⟨_,rfl,a2,?_⟩
  have al:=a2.size
  have af:=a9.trans a2
  have a7:=ab.ext a2
  refine AO (vs:=[.agg #[zI ipT,a6,vg4,vx4],zI 0]) (.agg #[zI ipT,a6,vg4,vx4]) Z Z Ac<|AO (vs:=[.agg #[zI ipT,a6,vg4,vx4],zI 0]) (zI 0) Z Z Ac (Bh (vs:=[zI ipT,a6,vg4,vx4]) BE Z Z (by intro u hu;simp only[ze,z2,or_false]at hu;rcases hu with rfl|rfl|rfl|rfl <;> first|exact⟨rfl,rfl⟩|exact AT a3.isSlS|exact AT a4.isSlS|exact AT a5.isSl) a7 Z Z Ac fun w5 a1 aw ad=>?_)
  replace ad:BX w5.heap w1.heap.size [zI ipT,a6,vg4,vx4]:=ad
  have am:w4.heap.size≤w5.heap.size:=a1.size
  have an:AD w w5:=a1.below af (fun _ h=>zE h) af.size
  have ao:=a3.chg (An Ap) a1 fun _ h=>zA h
  have ap:=a4.chg (An As) a1 fun _ h=>zA h
  have aq:=a5.chg (o1) a1 fun _ h=>zA h
  exact Ae 1 Z<|A3<|GD (t0:=3) (ts:=[]) (cs:=[zI ipT,a6,vg4,vx4]) [zI 0] Z BE Z ad Z Z ⟨a6,vg4,vx4,cs4,gs4,os4,rfl,an,(ao.up<|An Ap).low (B':=w.heap.size) oM,(ap.up<|An As).low (B':=w.heap.size) oM,(aq.up o1).low (B':=w.heap.size) oM,ac⟩
theorem Qh (w:World)(a:Sr)(ipT:Int)(vtc vtg vtx:Value)(T:Tp)(oT:Sr)(va:Value)(d:Sr)(vw:Value)(ws:Sr)(vd:Value)(e0:Sr)(_hipT:Bd ipT)(htcT:RN [] (CK 4 Gs) w.heap vtc T.code)(htgT:RN [] (CK 2 FV) w.heap vtg T.grd)(htoT:RN [] (Bl rI) w.heap vtx oT)(hd:Rd (Bl rI) w.heap va d)(hws:Rd (Bl rI) w.heap vw ws)(a8:Rd (Bl rI) w.heap vd e0)(hip:ipT=(a.length:Int))(hR:Iz a T oT)(hW:Iz d (ZN d T) oT)(hdl:d.length=a.length)(hw:ws.length=oT.length∧Bj ws=true)(hdd:e0.length=a.length∧Bj e0=true) :
    Calls Tryz.prog 126 #[(.agg #[(zI ipT),vtc,vtg,vtx]),va,vw,vd] w (fun e w'=>e=.returned (zI 0)∧AD w w'):=by
  refine Aw [.agg #[zI ipT,vtc,vtg,vtx],va,vw,vd] 26 Tryz.func126 Z Z sM ?_
  have ac:AD w w:=AD.refl w
  have hl_vtx:=htoT.lenL
  unfold maxLen at hl_vtx
  have ai:=hd.lenle
  have ao:=hws.lenle
  have ap:=a8.lenle
  have hK:=hR.k
  have hni:=hK.nb
  have hcl:=hK.cl
  have aq:=hK.gl
  have hol:=hK.ol
  have hpos:=hK.pos
  refine fQ [3,0] Z (BC (cs:=#[zI ipT,vtc,vtg,vtx]) Z Ac fun w1 a9 am a3=>?_)
  have ad:=a9.size
  have a6:=ac.trans a9
  replace a3:BX w1.heap w.heap.size [zI ipT,vtc,vtg,vtx]:=a3
  refine Ae 1 Z<|fQ [2,0,0,3,3,0] Z<|AC (p:=zP w.heap.size) (.inr Z) [zI ipT,vtc,vtg,vtx] BE Z (fun ar ae=>LD.of_box<|BX.ext (w:=w1) a3 ae) Z Ac<|Af 2 Z (Vu (x0:=d) (x1:=e0) BJ BR Z Z Z (RN.of<|hd.ext g1 a6) (RN.of<|a8.ext g1 a6) Ac fun v2 w2 a7 an aa af=>?_)
  have ag:=a7.size
  have a4:=a6.trans a7
  have a0:=a3.ext a7
  refine Ay 122 [] [] [.agg #[zI ipT,vtc,vtg,vtx],v2] Z Z XH Ac (JL _ a (ipT) vtc vtg vtx (T) (oT) v2 ([d,e0]) _hipT (htcT.ext (Aq Ap) a4) (htgT.ext (Aq As) a4) (htoT.ext g1 a4) aa af oM hR (by intro k hk;match k,hk with|0,_=>exact⟨hdl,hW.n⟩|1,_=>exact hdd)) ?_
  rintro e3 w3 ⟨rfl,a1⟩
  refine⟨_,rfl,a1,?_⟩
  have ah:=a1.size
  have ab:=a4.trans a1
  have a2:=a0.ext a1
  refine Ae 1 Z<|A0<|fQ [0,0,0,0,0,2,0,3,0,0] Z<|Af 1 Z ?_
  have aj:0=((0:Nat):Int):=rfl
  refine Av true Z Z (A7 aj) Ac<|Af 2 Z<|Ao (p:=zP w.heap.size) 3 Es Z Z (Ag (e:=17) Z Z Z)<|Ai (p:=Au (zP w.heap.size) 3) (.inr Z) vtx BN Z (a2.ldp (i:=3) sM) (Ag (e:=17) Z Z Z)<|AU (v:=vtx) Bu Z htoT.slL (Ag (e:=17) Z Z Z)<|Ay 53 [] [] [vw,zI (oT.length:Int)] Z Z Zj (Ag (e:=17) Z Z Z) (Eu _ _ _ _ (hws.ext g1 ab) oM) ?_
  rintro e6 w6 ⟨rfl,a5⟩
  refine⟨_,rfl,a5,?_⟩
  have ak:=a5.size
  have al:=ab.trans a5
  rw[show(decide ((ws.length:Int)=(oT.length:Int)) && Bj ws)=true from(by rw[A7 oM,hw.2];rfl)]
  exact BF false Z Z (Ag (e:=17) Z Z Z)<|Ae 1 Z<|Ak Z<|A4<|fQ [0,0] Z<|Ae 2 Z<|A3<|Al [8] Z (zI 0) Z ⟨rfl,al⟩
theorem UA (w:World)(a:Sr)(ipT:Int)(vtc vtg vtx:Value)(T:Tp)(oT:Sr)(va:Value)(d:Sr)(vw:Value)(ws:Sr)(vd:Value)(e0:Sr)(_hipT:Bd ipT)(htcT:RN [] (CK 4 Gs) w.heap vtc T.code)(htgT:RN [] (CK 2 FV) w.heap vtg T.grd)(htoT:RN [] (Bl rI) w.heap vtx oT)(hd:Rd (Bl rI) w.heap va d)(hws:Rd (Bl rI) w.heap vw ws)(ag:Rd (Bl rI) w.heap vd e0)(hip:ipT=(a.length:Int))(hR:Iz a T oT)(hW:Iz d (ZN d T) oT)(hdl:d.length=a.length)(hw:ws.length=oT.length∧Bj ws=true)(hdd:e0.length=a.length∧Bj e0=true) :
    Calls Tryz.prog 66 #[(.agg #[(zI ipT),vtc,vtg,vtx]),va,vw,vd] w (fun e w'=>∃v0:Value,e=.returned (.tuple #[v0,zI 0])∧AD w w'∧RN [] (Bl (Bl rI)) w'.heap v0 (Jy T.code (AZ 2 (Eh d e0 2) T.code) oT ws)∧Dm v0):=by
  refine Aw [.agg #[zI ipT,vtc,vtg,vtx],va,vw,vd] 36 Tryz.func66 Z Z sM ?_
  have al:AD w w:=AD.refl w
  have hl_vtx:=htoT.lenL
  unfold maxLen at hl_vtx
  have az:=hd.lenle
  have b0:=hws.lenle
  have b1:=ag.lenle
  have hK:=hR.k
  have hni:=hK.nb
  have hcl:=hK.cl
  have b3:=hK.gl
  have hol:=hK.ol
  have hpos:=hK.pos
  refine fQ [3,0,0] Z (BC (cs:=#[zI ipT,vtc,vtg,vtx]) Z Ac fun w1 ak ay ab=>?_)
  have am:=ak.size
  have a3:=al.trans ak
  replace ab:BX w1.heap w.heap.size [zI ipT,vtc,vtg,vtx]:=ab
  refine Ae 2 Z<|A0<|fQ [2,0,0,0,3,0] Z<|AC (p:=zP w.heap.size) (.inr Z) [zI ipT,vtc,vtg,vtx] BE Z (fun b2 a5=>LD.of_box<|BX.ext (w:=w1) ab a5) Z Ac<|Af 3 Z<|Ay 126 [] [] [.agg #[zI ipT,vtc,vtg,vtx],va,vw,vd] Z Z cA Ac (Qh _ a (ipT) vtc vtg vtx (T) (oT) _ _ _ _ _ _ _hipT (htcT.ext (Aq Ap) a3) (htgT.ext (Aq As) a3) (htoT.ext g1 a3) (hd.ext g1 a3) (hws.ext g1 a3) (ag.ext g1 a3) oM hR hW oM hw hdd) ?_
  rintro e2 w2 ⟨rfl,ac⟩
  refine⟨_,rfl,ac,?_⟩
  have an:=ac.size
  have ah:=a3.trans ac
  have a2:=ab.ext ac
  refine Ae 1 Z<|fQ [0,0] Z<|Af 1 Z ?_
  have ao:¬(0≠((0:Nat):Int)):=(fun h9=>h9 Z)
  refine Be false Z Z (A8 ao) Ac<|Aj<|Ak Z<|A4<|A0<|B7 _ [1,0,0,3,3,0,0,0,0,0] mixed (by kernel_rfl)<|AC (p:=zP w.heap.size) (.inl Z) [zI ipT,vtc,vtg,vtx] BE Z (fun b2 a5=>LD.of_box<|BX.ext (w:=w2.drew) a2 a5) Z Ac<|Af 2 Z<|Ay 127 [] [] [va,vd] Z Z cB Ac (O7 _ _ _ _ _ (hd.ext g1 ah.drew) (ag.ext g1 ah.drew) oM oM) ?_
  rintro e4 w4 ⟨a6,rfl,a4,a0⟩
  refine⟨_,rfl,a4,?_⟩
  replace a4:=a4.of_drew
  have ap:=a4.size
  have ad:=ah.trans a4
  have a7:=a2.ext a4
  replace a0:=a0.low (B':=w2.heap.size)<|A9 _
  refine Ay 123 [] [] [.agg #[zI ipT,vtc,vtg,vtx],a6,zI ((1:Nat):Int)] Z Z XI Ac (ED _ (ipT) vtc vtg vtx (T) (oT) a6 (Eh d e0 2) ((1:Nat):Int) _hipT (htcT.ext (Aq Ap) ad) (htgT.ext (Aq As) ad) (htoT.ext g1 ad) (RN.of_fr2 a0 fun b hb=>absurd hb z2) a0.cap oM oM (by exact Fy hW.n hdd.2) (by intro k hk;rw[CE];exact hW.k.form k hk) oM) ?_
  rintro e5 w5 ⟨v5,c5,rfl,ae,a8,ai⟩
  refine⟨_,rfl,ae,?_⟩
  have aq:=ae.size
  have a9:=ad.trans ae
  have aa:=a7.ext ae
  have ar:c5=0∨c5=6:=by unfold PM at a8;omega
  have hcz:c5=0:=by rcases a8 with h9|h9;exact h9.1;exact absurd (hW.nz hdd.2) h9.2
  obtain⟨a1,hrvc⟩:=ai hcz
  replace a1:RN [] (Bl (Bl rI)) w5.heap v5 (AZ 2 (Eh d e0 2) T.code):=a1
  refine Af 1 Z<|AO (vs:=[v5,zI c5]) v5 Z Z Ac<|AO (vs:=[v5,zI c5]) (zI c5) Z Z Ac<|Ae 2 Z<|A0<|fQ [0,0] Z<|Af 1 Z ?_
  have au:¬(c5≠((0:Nat):Int)):=(fun h9=>h9 hcz)
  refine Be false Z Z (A8 au) Ac<|Aj<|Ak Z<|A4<|fQ [2,0,0,3,0,0] Z<|AC (p:=zP w.heap.size) (.inr Z) [zI ipT,vtc,vtg,vtx] BE Z (fun b2 a5=>LD.of_box<|BX.ext (w:=w5) aa a5) Z Ac<|Af 2 Z<|Ay 128 [] [] [.agg #[zI ipT,vtc,vtg,vtx],v5,vw] Z Z cC Ac (HZ _ 2 d.length [] (ipT) vtc vtg vtx (T) (oT) v5 (AZ 2 (Eh d e0 2) T.code) vw (ws) (fun b hb=>absurd hb z2) _hipT (htcT.ext (Aq Ap) a9) (htgT.ext (Aq As) a9) (htoT.ext g1 a9) a1 hrvc (hws.ext g1 a9) oM (by exact hW.reg hdd.2) (by rw[Bp]) oM oM hW.k.out hw.2 hW.k.form) ?_
  rintro e7 w7 ⟨v7,rfl,af,av,aj⟩
  refine⟨_,rfl,af,?_⟩
  have aw:=af.size
  have ax:=a9.trans af
  exact Ae 2 Z<|A3<|Al [8,9] Z (.tuple #[v7,zI ((0:Nat):Int)]) Z ⟨_,rfl,ax,av,aj⟩
theorem Md (w:World)(a:Sr)(ipT:Int)(vtc vtg vtx:Value)(T:Tp)(oT:Sr)(va:Value)(d:Sr)(vw:Value)(ws:Sr)(_hipT:Bd ipT)(htcT:RN [] (CK 4 Gs) w.heap vtc T.code)(htgT:RN [] (CK 2 FV) w.heap vtg T.grd)(htoT:RN [] (Bl rI) w.heap vtx oT)(hd:Rd (Bl rI) w.heap va d)(hws:Rd (Bl rI) w.heap vw ws)(hip:ipT=(a.length:Int))(hR:Iz a T oT)(hW:Iz d (ZN d T) oT)(hdl:d.length=a.length)(hw:ws.length=oT.length∧Bj ws=true) :
    Calls Tryz.prog 16 #[(.agg #[(zI ipT),vtc,vtg,vtx]),va,vw] w (fun e w'=>∃v0:Value,e=.returned (.tuple #[v0,zI 0])∧AD w w'∧Fr (BD rI 2) w.heap.size w'.heap.size w'.heap v0 (CH (Lx 2 T oT ws (Eh d d 2)))):=by
  refine Aw [.agg #[zI ipT,vtc,vtg,vtx],va,vw] 25 Tryz.func16 Z Z sM ?_
  have af:AD w w:=AD.refl w
  have hl_vtx:=htoT.lenL
  unfold maxLen at hl_vtx
  have al:=hd.lenle
  have ap:=hws.lenle
  have hK:=hR.k
  have hni:=hK.nb
  have hcl:=hK.cl
  have ar:=hK.gl
  have hol:=hK.ol
  have hpos:=hK.pos
  refine fQ [3,0,0] Z (BC (cs:=#[zI ipT,vtc,vtg,vtx]) Z Ac fun w1 ab ao a5=>?_)
  have ag:=ab.size
  have a0:=af.trans ab
  replace a5:BX w1.heap w.heap.size [zI ipT,vtc,vtg,vtx]:=a5
  refine Ae 2 Z<|fQ [2,0,0,0,3,0,0,0,0,0] Z<|AC (p:=zP w.heap.size) (.inr Z) [zI ipT,vtc,vtg,vtx] BE Z (fun aq a9=>LD.of_box<|BX.ext (w:=w1) a5 a9) Z Ac<|Af 3 Z<|Ay 66 [] [] [.agg #[zI ipT,vtc,vtg,vtx],va,vw,va] Z Z fB Ac (UA _ a (ipT) vtc vtg vtx (T) (oT) va (d) vw (ws) va (d) _hipT (htcT.ext (Aq Ap) a0) (htgT.ext (Aq As) a0) (htoT.ext g1 a0) (hd.ext g1 a0) (hws.ext g1 a0) (hd.ext g1 a0) oM hR hW oM hw (by exact⟨hdl,hW.n⟩)) ?_
  rintro e2 w2 ⟨v2,rfl,a6,ac,aa⟩
  refine⟨_,rfl,a6,?_⟩
  have ah:=a6.size
  have a7:=a0.trans a6
  have a1:=a5.ext a6
  refine Af 1 Z<|AO (vs:=[v2,zI 0]) v2 Z Z Ac<|AO (vs:=[v2,zI 0]) (zI 0) Z Z Ac<|Ae 2 Z<|A0<|fQ [0,0] Z<|Af 1 Z ?_
  have ai:¬(0≠((0:Nat):Int)):=(fun h9=>h9 Z)
  refine Be false Z Z (A8 ai) Ac<|Aj<|Ak Z<|A4<|fQ [2,0,3,3,0,0] Z<|AC (p:=zP w.heap.size) (.inr Z) [zI ipT,vtc,vtg,vtx] BE Z (fun aq a9=>LD.of_box<|BX.ext (w:=w2) a1 a9) Z Ac<|Af 1 Z<|Ay 68 [] [] [.agg #[zI ipT,vtc,vtg,vtx],v2] Z Z fC Ac (I0 _ 2 d.length [] (ipT) vtc vtg vtx (T) (oT) v2 (Jy T.code (AZ 2 (Eh d d 2) T.code) oT ws) (fun b hb=>absurd hb z2) _hipT (htcT.ext (Aq Ap) a7) (htgT.ext (Aq As) a7) (htoT.ext g1 a7) ac aa oM oM (by exact hW.adj hW.n) (by rw[TH,Bp];omega) oM hW.k.form) ?_
  rintro e4 w4 ⟨v4,rfl,a8,ad,aj⟩
  refine⟨_,rfl,a8,?_⟩
  have ak:=a8.size
  have ae:=a7.trans a8
  refine Ay 67 [] [] [v4] Z Z bO Ac (IC _ _ _ (ad).rd (by rw[R7];omega) (by intro k hk;have h9:=((R6 hW.k.form:CG 2 (Vp d.length 2 T.code<|Jy T.code (AZ 2 (Eh d d 2) T.code) oT ws)) k hk).1;omega)) ?_
  rintro e6 w6 ⟨a2,rfl,a3,a4⟩
  refine⟨_,rfl,a3,?_⟩
  have am:=a3.size
  have an:=ae.trans a3
  exact Ae 2 Z<|A3<|Al [6,7] Z (.tuple #[a2,zI ((0:Nat):Int)]) Z ⟨a2,rfl,an,(by first|(unfold CH Lx;rw[CE];exact(a4.up o1).low ae.size)|(exfalso;omega))⟩
theorem UB {p:Prop}(h:p:=by first|rfl|exact AQ (A7 oM)|exact absurd (by assumption:(_ == _)=false) (by rw[hgdT];decide)):p:=h
theorem Ki (w:World)(vc:Value)(cs:List UInt8)(vd:Value)(ds:List UInt8)(hcs:Rd (Bl rU) w.heap vc cs)(hds:Rd (Bl rU) w.heap vd ds)  :
    Calls Tryz.prog 3 #[vc,vd] w (fun e w'=>e=.returned (.bool true)∧AD w w'):=by
  refine Aw [vc,vd] 204 Tryz.func3 Z Z sM ?_
  have m3:AD w w:=AD.refl w
  have qa:=hcs.lenle
  have qb:=hds.lenle
  refine fR Z<|A0<|fQ [0,0,3] Z<|Af 2 Z<|Ay 7 [] [] [vc,vd] Z Z gI Ac (Mu _ _ _ _ _ (hcs.ext Dl m3)<|hds.ext Dl m3) ?_
  rintro e1 w1 ⟨rfl,m4⟩
  refine⟨_,rfl,m4,?_⟩
  have p5:=m4.size
  have m5:=m3.trans m4
  refine Aj ?_
  cases o9:(decide (((3000:Nat):Int)<(cs.length:Int)) || decide (((3000:Nat):Int)<(ds.length:Int)))
  ·
    refine Ak (by first|rfl|exact zW o9)<|A4<|fQ [0,3,0,0,0,0,0,0,3,4,0,0,0,0] Z<|Af 1 Z<|Ay 8 [] [] [vc] Z Z gJ Ac (MB _ vc _<|hcs.ext Dl m5) ?_
    rintro e3 w3 ⟨vD,vaD,vbD,pD,fD,kD,aD,bD,rfl,m6,hOD,haD,hbD,hCD⟩
    refine⟨_,rfl,m6,?_⟩
    have p6:=m6.size
    have p7:=m5.trans m6
    have hfe:=hCD.fe
    have hlc:=hCD.len
    have hpa:=hCD.dr.par fD.toNat oM
    have qu:=hCD.dr.outs fD.toNat oM
    have hla:=hCD.la
    have hlb:=hCD.lb
    have hft:(fD.toNat:Int)=fD:=by omega
    have qc:=Nq hCD.dr.ok
    have m7:=aT hCD.dr.ok oM hla.1 hla.2
    have hex:=Xh m7
    refine Af 1 Z<|AO (vs:=[.agg #[vD],zI fD,zI kD,vaD,vbD]) (.agg #[vD]) Z Z Ac<|AO (vs:=[.agg #[vD],zI fD,zI kD,vaD,vbD]) (zI fD) Z Z Ac<|AO (vs:=[.agg #[vD],zI fD,zI kD,vaD,vbD]) (zI kD) Z Z Ac<|AO (vs:=[.agg #[vD],zI fD,zI kD,vaD,vbD]) vaD Z Z Ac<|AO (vs:=[.agg #[vD],zI fD,zI kD,vaD,vbD]) vbD Z Z Ac (B9 (z:=.agg #[zN]) Sa Ac fun w4 jl pu m8=>?_)
    have p8:=jl.size
    have oa:=p7.trans jl
    have im:=hOD.ext (An<|B4 153 6) jl
    have jm:=haD.ext (o1) jl
    have jn:=hbD.ext (o1) jl
    replace m8:BX w4.heap w3.heap.size [zN]:=m8
    refine Bh (vs:=[vD]) EC Z Z (by intro u hu;simp only[ze,z2,or_false]at hu;rcases hu with rfl <;> first|exact⟨rfl,rfl⟩|exact AT im.isSlS) m8 Z Z Ac fun w5 jo pv m9=>?_
    replace m9:BX w5.heap w3.heap.size [vD]:=m9
    have p9:w4.heap.size≤w5.heap.size:=jo.size
    have ob:AD w w5:=jo.below oa (fun _ h=>zE h) oa.size
    have pa:=im.chg (An<|B4 153 6) jo fun _ h=>zA h
    have oc:=jm.chg (o1) jo fun _ h=>zA h
    have pb:=jn.chg (o1) jo fun _ h=>zA h
    refine Ae 4 Z<|fQ [0,0,0,3,0] Z<|Af 2 Z<|AU (v:=vaD) Bu Z oc.isSl Ac<|Ay 9 [] [] [vd,zI (aD.length:Int)] Z Z fX Ac (IE _ _ _ _ (hds.ext Dl ob) oM sD) ?_
    rintro e9 w9 ⟨c5,q2,rfl,j0,jp,od⟩
    refine⟨_,rfl,j0,?_⟩
    have pc:=j0.size
    have og:=ob.trans j0
    have c9:=pa.ext (An<|B4 153 6) j0
    have jq:=oc.ext (o1) j0
    have jr:=pb.ext (o1) j0
    have io:=m9.ext j0
    refine Ae 1 Z<|fQ [0,0,2,0,0,0,2,0,3,0] Z ?_
    obtain⟨ot,hotE⟩:∃l:Sr,l=q2:=⟨_,rfl⟩
    have hn_ot:=jp
    rw[← hotE]at hn_ot
    have hot:ot.length=aD.length∧Bj ot=true:=by rw[hotE];exact⟨by have h9:=‹_∧Bj q2=true›.1;omega,‹_∧Bj q2=true›.2⟩
    refine Af 1 Z<|Ao (p:=zP w3.heap.size) 0 C8 Z Z Ac<|Ai (p:=Au (zP w3.heap.size) 0) (.inr Z) vD CO Z (io.ldp (i:=0) sM) Ac<|Af 1 Z<|AH (v:=vD) ((fD).toNat) Im DJ Z Z c9.isSlS oM sD Ac ?_
    obtain⟨cs10,ma,js⟩:=RN.get (S:=[]) (AR 6) Fn.zero (k:=(fD).toNat) (RN.of_frF c9 (fun b hb=>by cases hb)) sD
    obtain⟨jt,rfl,ju⟩:=RF.of ma
    have jv:=ju.rn.lenle
    unfold maxLen at jv
    refine AP (p:=AE vD ((fD).toNat) 3) 2 Cv Z (js _<|AB.refl [] _) Ac<|Ai (p:=Au (AE vD ((fD).toNat) 3) 2) (.inr Z) jt BG Z ((js _<|AB.refl [] _).ld (i:=2) (by first|(simp[Ge,Gf];done)|simp[Mf])) Ac<|AU (v:=jt) DS Z ju.rn.isSl Ac<|Ay 9 [] [] [vd,zI (((pD.getD ((fD).toNat) Fn.zero).outs.length:Nat):Int)] Z Z fX Ac (IE _ _ _ _ (hds.ext Dl og) oM sD) ?_
    rintro qv qg ⟨ca,py,rfl,ap,j1,mb⟩
    refine⟨_,rfl,ap,?_⟩
    have oh:=ap.size
    have mc:=og.trans ap
    have cb:=c9.ext (An<|B4 153 6) ap
    have cc:=jq.ext (o1) ap
    have j2:=jr.ext (o1) ap
    have cd:=io.ext ap
    have hn_otx11:=hn_ot.ext (o1) ap
    refine Ae 1 Z<|fQ [2,0,0,3,0,0,0,0,0,0,0] Z ?_
    obtain⟨ws,hws⟩:∃l:Sr,l=py:=⟨_,rfl⟩
    have hn_ws:=j1
    rw[← hws]at hn_ws
    have hwt:ws.length=(pD.getD fD.toNat Fn.zero).outs.length∧Bj ws=true:=by rw[hws];exact⟨by have h9:=‹_∧Bj py=true›.1;omega,‹_∧Bj py=true›.2⟩
    refine AC (p:=zP w3.heap.size) (.inr Z) [vD] EC Z (fun pz ah=>LD.of_box<|BX.ext (w:=qg) cd ah) Z Ac<|Af 2 Z<|Ay 10 [] [] [.agg #[vD],zI fD,vaD] Z Z fg Ac (KC _ 6 vD (pD) _ _ _ (RN.of_frF cb fun b hb=>by cases hb) oM cc.rd1 hCD.dr.szp) ?_
    rintro qw qh ⟨bo,rfl,an,j3⟩
    refine⟨_,rfl,an,?_⟩
    have oi:=an.size
    have md:=mc.trans an
    have ce:=cb.ext (An<|B4 153 6) an
    have cf:=cc.ext (o1) an
    have j4:=j2.ext (o1) an
    have cg:=cd.ext an
    have hn_otx12:=hn_otx11.ext (o1) an
    have hn_wsx12:=hn_ws.ext (o1) an
    refine Af 1 Z<|AO (vs:=[bo,zI ((YX pD fD aD:Nat):Int),zI<|UE pD fD aD]) bo Z Z Ac<|AO (vs:=[bo,zI ((YX pD fD aD:Nat):Int),zI<|UE pD fD aD]) (zI ((YX pD fD aD:Nat):Int)) Z Z Ac<|AO (vs:=[bo,zI ((YX pD fD aD:Nat):Int),zI<|UE pD fD aD]) (zI<|UE pD fD aD) Z Z Ac<|Ae 3 Z<|fQ [2,0,0,3,0,0,0,3,4,0] Z<|AC (p:=zP w3.heap.size) (.inr Z) [vD] EC Z (fun pz ah=>LD.of_box<|BX.ext (w:=qh) cg ah) Z Ac<|Af 2 Z ?_
    refine Ay 11 [] [] [.agg #[vD],zI fD,vaD] Z Z fh Ac (MC _ 6 vD pD (fD) vaD aD (RN.of_frF ce fun b hb=>by cases hb) oM (RN.of_fr1 cf fun b hb=>absurd hb z2) hCD.dr.ok hCD.dr.szp oM oM hla.2) ?_
    rintro qx px ⟨i13,f2,fr,f3,fs,fd,qy,q3,rfl,ak,ip,oj,jw,ae,jx⟩
    refine⟨_,rfl,ak,?_⟩
    have om:=ak.size
    have me:=md.trans ak
    have j5:=ce.ext (An<|B4 153 6) ak
    have j6:=cf.ext (o1) ak
    have j7:=j4.ext (o1) ak
    have ch:=cg.ext ak
    have hn_otx13:=hn_otx12.ext (o1) ak
    have hn_wsx13:=hn_wsx12.ext (o1) ak
    have c6:=j3.ext (o1) ak
    have on:Po pD (fD).toNat aD=q3:=OT (A9 1) qc oM hla.2 (KW (Dh hla.2) (Lw _)) oM ip
    have jy:=AD.refl px
    refine Af 1 Z<|AO (vs:=[.agg #[zI i13,f2,fr,f3],zI q3]) (.agg #[zI i13,f2,fr,f3]) Z Z Ac<|AO (vs:=[.agg #[zI i13,f2,fr,f3],zI q3]) (zI q3) Z Z Ac ?_
    have pd:=ch.lt
    refine B9 (z:=.agg #[zI 0,zN,zN,zN]) Kb Ac fun qd al pe j8=>?_
    have oo:=al.size
    have jz:=me.trans al
    have mf:=jy.trans al
    have j9:=j5.ext (An<|B4 153 6) al
    have ja:=j6.ext (o1) al
    have jb:=j7.ext (o1) al
    have jc:=ch.ext al
    have hn_otx14:=hn_otx13.ext (o1) al
    have hn_wsx14:=hn_wsx13.ext (o1) al
    have c7:=c6.ext (o1) al
    replace j8:BX qd.heap px.heap.size [zI 0,zN,zN,zN]:=j8
    refine Bh (vs:=[zI i13,f2,fr,f3]) BE Z Z (fun u hu=>by rcases ze.1 hu with rfl|hu;exact⟨rfl,rfl⟩;exact jw u hu) j8 Z Z Ac fun q1 am pf ef=>?_
    replace ef:BX q1.heap px.heap.size [zI i13,f2,fr,f3]:=ef
    have op:qd.heap.size≤q1.heap.size:=am.size
    have k0:AD w q1:=am.below jz (fun _ h=>zE h) jz.size
    have mg:=j9.chg (An<|B4 153 6) am fun _ h=>zA h
    have mh:=ja.chg (o1) am fun _ h=>zA h
    have mi:=jb.chg (o1) am fun _ h=>zA h
    have mj:=jc.chg am (zB ·)
    have mk:=hn_otx14.chg (o1) am fun _ h=>zA h
    have ml:=hn_wsx14.chg (o1) am fun _ h=>zA h
    have mm:=c7.chg (o1) am fun _ h=>zA h
    have ci:AB [px.heap.size] px q1:=(AB.of_ext _ mf).trans am
    have cj:=AD.refl q1
    refine Ae 1 Z<|A0<|fQ [0,0,0] Z<|Af 2 Z ?_
    have mn:¬(q3≠UE pD fD aD):=oM
    refine Be false Z Z (A8 mn) Ac<|Aj<|Ak Z<|A4<|A0<|fQ [0,0] Z<|Af 1 Z ?_
    by_cases k1:UE pD fD aD≠((0:Nat):Int)
    ·
      exact Be true Z Z (A7 k1) Ac<|Aj<|Ah Z<|fR Z<|A3<|At<|Al [4] Z (.bool true) Z ⟨UB,k0⟩
    refine Be false Z Z (A8 k1) Ac<|Aj<|Ak Z<|A4<|fQ [2,3,0,0,0,3,4,0] Z ?_
    have k2:q3=0:=by omega
    obtain⟨pw,hTB,pg,hxl,hEn,ph,pi,pj⟩:=jx k2
    have k3:=ip
    rw[k2]at k3
    have hRc:Vs pD (fD).toNat aD fs fd:=⟨qc,zO,zO,hla.2,_,k3⟩
    have hTR:=hRc.tpr hTB pg
    have mo:RN [] (CK 4 Gs) q1.heap f2 fd.code:=RN.ext (Aq Ap) (RN.none (RN.chg (Aq Ap) (RG.rnG (g:=px.heap.size) (Aq Ap) ph oM) ci)) cj
    have mp:RN [] (CK 2 FV) q1.heap fr fd.grd:=RN.ext (Aq As) (RN.none (RN.chg (Aq As) (RG.rnG (g:=px.heap.size) (Aq As) pi oM) ci)) cj
    have mq:RN [] (Bl rI) q1.heap f3 fs:=RN.ext g1 (RN.none (RN.chg g1 (RG.rnG (g:=px.heap.size) g1 pj oM) ci)) cj
    have hxw:ws.length=fs.length:=by omega
    have h00:UE pD fD aD=0:=by omega
    have hK:=hTR.k
    have hKl:=hK.ol
    have hKc:=hK.cl
    have mr:=hRc.rgX0
    have iq:=RN.rt (Aq Ap) mo
    have ir:=RN.rt (Aq As) mp
    have is:=RN.rt g1 mq
    refine AC (p:=zP px.heap.size) (.inr Z) [zI i13,f2,fr,f3] BE Z (fun pz ah=>LD.of_box<|BX.ext (w:=q1) ef ah) Z Ac<|Ay 12 [] [] [.agg #[zI i13,f2,fr,f3]] Z Z bH Ac (Fq _ aD (i13) f2 fr f3 fd fs ae iq.rn ir.rn is.rn oM hTR) ?_
    rintro qz q0 ⟨f1,vg29,vx29,cs29,gs29,os29,rfl,af,k4,k5,k6,k7⟩
    refine⟨_,rfl,af,?_⟩
    have oq:=af.size
    have ms:=k0.trans af
    have eg:=mg.ext (An<|B4 153 6) af
    have eh:=mh.ext (o1) af
    have ei:=mi.ext (o1) af
    have bp:=mj.ext af
    have ej:=mk.ext (o1) af
    have ek:=ml.ext (o1) af
    have el:=mm.ext (o1) af
    have bq:=ef.ext af
    have mt:=iq.ext (Aq Ap) af
    have mu:=ir.ext (Aq As) af
    have mv:=is.ext g1 af
    obtain⟨tauO,hKO⟩:=k7.kn hK.form (eK hTR) (fW hTR)
    have hTO:=hTR.opt mr hKO
    have hOc:=hKO.cl
    have hOo:os29.length=fs.length:=by rw[hKO.oe,zg]
    refine Af 1 Z<|AO (vs:=[.agg #[zI i13,f1,vg29,vx29],zI 0]) (.agg #[zI i13,f1,vg29,vx29]) Z Z Ac<|AO (vs:=[.agg #[zI i13,f1,vg29,vx29],zI 0]) (zI 0) Z Z Ac ?_
    have pk:=bp.lt
    have pl:=bq.lt
    refine B9 (z:=.agg #[zI 0,zN,zN,zN]) Kb Ac fun qe ac pm jd=>?_
    have or:=ac.size
    have k8:=ms.trans ac
    have em:=eg.ext (An<|B4 153 6) ac
    have en:=eh.ext (o1) ac
    have eo:=ei.ext (o1) ac
    have ep:=bp.ext ac
    have eq:=ej.ext (o1) ac
    have er:=ek.ext (o1) ac
    have es:=el.ext (o1) ac
    have et:=bq.ext ac
    have aq:=k4.ext (An Ap) ac
    have ar:=k5.ext (An As) ac
    have au:=k6.ext (o1) ac
    have mw:=mt.ext (Aq Ap) ac
    have mx:=mu.ext (Aq As) ac
    have my:=mv.ext g1 ac
    replace jd:BX qe.heap q0.heap.size [zI 0,zN,zN,zN]:=jd
    refine Bh (vs:=[zI i13,f1,vg29,vx29]) BE Z Z (by intro u hu;simp only[ze,z2,or_false]at hu;rcases hu with rfl|rfl|rfl|rfl <;> first|exact⟨rfl,rfl⟩|exact AT aq.isSlS|exact AT ar.isSlS|exact AT au.isSl) jd Z Z Ac fun q5 ad pn eu=>?_
    replace eu:BX q5.heap q0.heap.size [zI i13,f1,vg29,vx29]:=eu
    have os:qe.heap.size≤q5.heap.size:=ad.size
    have mz:AD w q5:=ad.below k8 (fun _ h=>zE h) k8.size
    have n0:=em.chg (An<|B4 153 6) ad fun _ h=>zA h
    have n1:=en.chg (o1) ad fun _ h=>zA h
    have n2:=eo.chg (o1) ad fun _ h=>zA h
    have n3:=ep.chg ad (zB ·)
    have n4:=eq.chg (o1) ad fun _ h=>zA h
    have n5:=er.chg (o1) ad fun _ h=>zA h
    have n6:=es.chg (o1) ad fun _ h=>zA h
    have n7:=et.chg ad (zB ·)
    have k9:=aq.chg (An Ap) ad fun _ h=>zA h
    have ka:=ar.chg (An As) ad fun _ h=>zA h
    have kb:=au.chg (o1) ad fun _ h=>zA h
    have n8:=mw.chg (Aq Ap) ad fun _ h=>zE h
    have n9:=mx.chg (Aq As) ad fun _ h=>zE h
    have na:=my.chg g1 ad fun c hc=>zH<|Ab hc
    refine Ae 1 Z<|fQ [2,3,0,0,0,3,4,0] Z<|AC (p:=zP q0.heap.size) (.inr Z) [zI i13,f1,vg29,vx29] BE Z (fun pz ah=>LD.of_box<|BX.ext (w:=q5) eu ah) Z Ac<|Ay 12 [] [] [.agg #[zI i13,f1,vg29,vx29]] Z Z bH Ac (Fq _ aD (i13) f1 vg29 vx29 (Hw aD cs29 gs29) os29 ae (Ez k9) (Gq ka) (I4 kb) oM hTO) ?_
    rintro r0 q6 ⟨fx,vg54,vx54,cs54,gs54,os54,rfl,ab,kc,kd,ke,kf⟩
    refine⟨_,rfl,ab,?_⟩
    have ou:=ab.size
    have nb:=mz.trans ab
    have ev:=n0.ext (An<|B4 153 6) ab
    have ew:=n1.ext (o1) ab
    have ex:=n2.ext (o1) ab
    have br:=n3.ext ab
    have ey:=n4.ext (o1) ab
    have ez:=n5.ext (o1) ab
    have g0:=n6.ext (o1) ab
    have bs:=n7.ext ab
    have g2:=k9.ext (An Ap) ab
    have g3:=ka.ext (An As) ab
    have g4:=kb.ext (o1) ab
    have bt:=eu.ext ab
    have nc:=n8.ext (Aq Ap) ab
    have nd:=n9.ext (Aq As) ab
    have ne:=na.ext g1 ab
    obtain⟨ov,ow,po⟩:=NO.idem hKO kf
    have hTOk:=hTO.k
    have nf:=hTOk.cl
    have ng:=hTOk.gl
    refine Af 1 Z<|AO (vs:=[.agg #[zI i13,fx,vg54,vx54],zI 0]) (.agg #[zI i13,fx,vg54,vx54]) Z Z Ac<|AO (vs:=[.agg #[zI i13,fx,vg54,vx54],zI 0]) (zI 0) Z Z Ac ?_
    have pp:=br.lt
    have pq:=bs.lt
    have pr:=bt.lt
    refine B9 (z:=.agg #[zI 0,zN,zN,zN]) Kb Ac fun qf a9 ps je=>?_
    have ox:=a9.size
    have kg:=nb.trans a9
    have g5:=ev.ext (An<|B4 153 6) a9
    have g6:=ew.ext (o1) a9
    have g7:=ex.ext (o1) a9
    have g8:=br.ext a9
    have g9:=ey.ext (o1) a9
    have ga:=ez.ext (o1) a9
    have gb:=g0.ext (o1) a9
    have gc:=bs.ext a9
    have gd:=g2.ext (An Ap) a9
    have ge:=g3.ext (An As) a9
    have gf:=g4.ext (o1) a9
    have gg:=bt.ext a9
    have av:=kc.ext (An Ap) a9
    have aw:=kd.ext (An As) a9
    have ax:=ke.ext (o1) a9
    have nh:=nc.ext (Aq Ap) a9
    have ni:=nd.ext (Aq As) a9
    have nj:=ne.ext g1 a9
    replace je:BX qf.heap q6.heap.size [zI 0,zN,zN,zN]:=je
    refine Bh (vs:=[zI i13,fx,vg54,vx54]) BE Z Z (by intro u hu;simp only[ze,z2,or_false]at hu;rcases hu with rfl|rfl|rfl|rfl <;> first|exact⟨rfl,rfl⟩|exact AT av.isSlS|exact AT aw.isSlS|exact AT ax.isSl) je Z Z Ac fun q4 aa pt jf=>?_
    replace jf:BX q4.heap q6.heap.size [zI i13,fx,vg54,vx54]:=jf
    have oy:qf.heap.size≤q4.heap.size:=aa.size
    have nk:AD w q4:=aa.below kg (fun _ h=>zE h) kg.size
    have nl:=g5.chg (An<|B4 153 6) aa fun _ h=>zA h
    have nm:=g6.chg (o1) aa fun _ h=>zA h
    have nn:=g7.chg (o1) aa fun _ h=>zA h
    have no:=g8.chg aa (zB ·)
    have np:=g9.chg (o1) aa fun _ h=>zA h
    have nq:=ga.chg (o1) aa fun _ h=>zA h
    have nr:=gb.chg (o1) aa fun _ h=>zA h
    have jg:=gc.chg aa (zB ·)
    have jh:=gd.chg (An Ap) aa fun _ h=>zA h
    have kh:=ge.chg (An As) aa fun _ h=>zA h
    have ji:=gf.chg (o1) aa fun _ h=>zA h
    have gh:=gg.chg aa (zB ·)
    have ki:=av.chg (An Ap) aa fun _ h=>zA h
    have kj:=aw.chg (An As) aa fun _ h=>zA h
    have kk:=ax.chg (o1) aa fun _ h=>zA h
    have kl:=nh.chg (Aq Ap) aa fun _ h=>zE h
    have ns:=ni.chg (Aq As) aa fun _ h=>zE h
    have km:=nj.chg g1 aa fun c hc=>zH<|Ab hc
    refine Ae 1 Z<|A0<|fQ [0,0,0,0,0,0,0,0,2,0,0,2,0,0,0,0,0,2,0,0,2,0,0,0,0,2,2,3,0,0] Z<|Af 1 Z ?_
    have nt:¬(0≠((0:Nat):Int)):=(fun h9=>h9 Z)
    refine Be false Z Z (A8 nt) Ac<|Af 2 Z ?_
    have nu:¬(0≠((0:Nat):Int)):=(fun h9=>h9 Z)
    refine Be false Z Z (A8 nu) (Ag (e:=89) Z Z Z)<|Af 2 Z<|Ao (p:=zP q0.heap.size) 1 Ck Z Z (Ag (e:=93) Z Z Z)<|Ai (p:=Au (zP q0.heap.size) 1) (.inr Z) f1 Dx Z (gh.ldp (i:=1) sM) (Ag (e:=93) Z Z Z)<|AU (v:=f1) Dg Z jh.isSlS (Ag (e:=93) Z Z Z)<|Ao (p:=zP px.heap.size) 1 Ck Z Z (Ag (e:=93) Z Z Z)<|Ai (p:=Au (zP px.heap.size) 1) (.inr Z) f2 Dx Z (jg.ldp (i:=1) sM) (Ag (e:=93) Z Z Z)<|AU (v:=f2) Dg Z (RN.isSl<|RT.rn kl) (Ag (e:=93) Z Z Z) ?_
    have nv:¬((fd.code.length:Int)<(cs29.length:Int)):=(by have h9:(Hw aD cs29 gs29).code.length≤fd.code.length:=hOc;omega)
    refine C0 false Z Z (A8 nv) (Ag (e:=93) Z Z Z)<|Af 2 Z<|Ao (p:=zP q0.heap.size) 3 Es Z Z (Ag (e:=102) Z Z Z)<|Ai (p:=Au (zP q0.heap.size) 3) (.inr Z) vx29 BN Z (gh.ldp (i:=3) sM) (Ag (e:=102) Z Z Z)<|AU (v:=vx29) Bu Z ji.isSl (Ag (e:=102) Z Z Z)<|Ao (p:=zP px.heap.size) 3 Es Z Z (Ag (e:=102) Z Z Z)<|Ai (p:=Au (zP px.heap.size) 3) (.inr Z) f3 BN Z (jg.ldp (i:=3) sM) (Ag (e:=102) Z Z Z)<|AU (v:=f3) Bu Z km.slL (Ag (e:=102) Z Z Z) ?_
    have nw:¬((os29.length:Int)≠(fs.length:Int)):=oM
    refine Be false Z Z (A8 nw) (Ag (e:=102) Z Z Z)<|Af 2 Z<|AC (p:=zP q6.heap.size) (.inr Z) [zI i13,fx,vg54,vx54] BE Z (fun pz ah=>LD.of_box<|BX.ext (w:=q4) jf ah) Z (Ag (e:=111) Z Z Z)<|AC (p:=zP q0.heap.size) (.inr Z) [zI i13,f1,vg29,vx29] BE Z (fun pz ah=>LD.of_box<|BX.ext (w:=q4) gh ah) Z (Ag (e:=111) Z Z Z) ?_
    refine Ay 13 [] [] [.agg #[zI i13,fx,vg54,vx54],.agg #[zI i13,f1,vg29,vx29]] Z Z fi (Ag (e:=111) Z Z Z) (KE _ (i13) fx vg54 vx54 (Hw aD cs54 gs54) (os54) (i13) f1 vg29 vx29 (Hw aD cs29 gs29) (os29) ae (Ez ki) (Gq kj) (I4 kk) ae (Ez jh) (Gq kh) (I4 ji) (by rfl) ov ow po (by show cs54.length≤3200;rw[ov];exact nf) (by show gs54.length≤3200;rw[ow];exact ng)) ?_
    rintro r1 qi ⟨rfl,a7⟩
    refine⟨_,rfl,a7,?_⟩
    have oz:=a7.size
    have nx:=nk.trans a7
    have gi:=nl.ext (An<|B4 153 6) a7
    have gj:=nm.ext (o1) a7
    have gk:=nn.ext (o1) a7
    have gm:=no.ext a7
    have bu:=np.ext (o1) a7
    have gn:=nq.ext (o1) a7
    have go:=nr.ext (o1) a7
    have bv:=jg.ext a7
    have gp:=jh.ext (An Ap) a7
    have gq:=kh.ext (An As) a7
    have gr:=ji.ext (o1) a7
    have gs:=gh.ext a7
    have gt:=ki.ext (An Ap) a7
    have gu:=kj.ext (An As) a7
    have gv:=kk.ext (o1) a7
    have ko:=kl.ext (Aq Ap) a7
    have kp:=ns.ext (Aq As) a7
    have kq:=km.ext g1 a7
    refine BF false Z Z (Ag (e:=111) Z Z Z)<|Ae 1 Z<|Ak Z<|A4<|fQ [2,0,3,0,0,0,0,0] Z<|AC (p:=zP px.heap.size) (.inr Z) [zI i13,f2,fr,f3] BE Z (fun pz ah=>LD.of_box<|BX.ext (w:=qi) bv ah) Z Ac<|Af 1 Z<|Ay 14 [] [] [.agg #[zI i13,f2,fr,f3],c5] Z Z bI Ac (I3 _ aD (i13) f2 fr f3 fd (fs) _ _ ae ko.rn kp.rn kq.rn bu.rd1 oM hTR hot) ?_
    rintro r2 qj ⟨ay,rfl,a8,jj⟩
    refine⟨_,rfl,a8,?_⟩
    have p0:=a8.size
    have kr:=nx.trans a8
    have gw:=gi.ext (An<|B4 153 6) a8
    have gx:=gj.ext (o1) a8
    have gy:=gk.ext (o1) a8
    have gz:=gm.ext a8
    have bw:=bu.ext (o1) a8
    have i0:=gn.ext (o1) a8
    have i1:=go.ext (o1) a8
    have i2:=bv.ext a8
    have bx:=gp.ext (An Ap) a8
    have bz:=gq.ext (An As) a8
    have c0:=gr.ext (o1) a8
    have c1:=gs.ext a8
    have i3:=gt.ext (An Ap) a8
    have i4:=gu.ext (An As) a8
    have i5:=gv.ext (o1) a8
    have ny:=ko.ext (Aq Ap) a8
    have nz:=kp.ext (Aq As) a8
    have o0:=kq.ext g1 a8
    refine Af 1 Z<|AO (vs:=[ay,zI<|DC ot fd.code]) ay Z Z Ac<|AO (vs:=[ay,zI<|DC ot fd.code]) (zI<|DC ot fd.code) Z Z Ac<|Ae 2 Z<|A0<|fQ [0,0] Z<|Af 1 Z ?_
    by_cases ks:DC ot fd.code≠((0:Nat):Int)
    ·
      refine Be true Z Z (A7 ks) Ac<|Aj<|Ah Z<|fQ [0,0,0] Z ?_
      have hror:=Zf ot fd.code
      exact Af 1 Z<|Av (decide (DC ot fd.code=((6:Nat):Int))) Z Z Z Ac<|Ae 1 Z<|A3<|At<|Al [4] Z (.bool<|decide (DC ot fd.code=((6:Nat):Int))) Z ⟨UB,kr⟩
    refine Be false Z Z (A8 ks) Ac<|Aj<|Ak Z<|A4<|fQ [2,0,3,0,0,0,0,0] Z ?_
    have it:DC ot fd.code=0:=by omega
    have m2:DC ot (Hw aD cs29 gs29).code=0:=(KY hot.2 hot.1 hTR hKO it).1
    refine AC (p:=zP q0.heap.size) (.inr Z) [zI i13,f1,vg29,vx29] BE Z (fun pz ah=>LD.of_box<|BX.ext (w:=qj) c1 ah) Z Ac<|Af 1 Z<|Ay 14 [] [] [.agg #[zI i13,f1,vg29,vx29],c5] Z Z bI Ac (I3 _ aD (i13) f1 vg29 vx29 (Hw aD cs29 gs29) (os29) _ _ ae (Ez bx) (Gq bz) (I4 c0) bw.rd1 oM hTO hot) ?_
    rintro r3 qk ⟨c2,rfl,a6,jk⟩
    refine⟨_,rfl,a6,?_⟩
    have p1:=a6.size
    have o2:=kr.trans a6
    have i6:=gw.ext (An<|B4 153 6) a6
    have i7:=gx.ext (o1) a6
    have i8:=gy.ext (o1) a6
    have i9:=gz.ext a6
    have c3:=bw.ext (o1) a6
    have ia:=i0.ext (o1) a6
    have ib:=i1.ext (o1) a6
    have c4:=i2.ext a6
    have ic:=bx.ext (An Ap) a6
    have id:=bz.ext (An As) a6
    have ie:=c0.ext (o1) a6
    have ig:=c1.ext a6
    have ih:=i3.ext (An Ap) a6
    have ii:=i4.ext (An As) a6
    have ij:=i5.ext (o1) a6
    have c8:=jj.ext (o1) a6
    have kt:=ny.ext (Aq Ap) a6
    have ku:=nz.ext (Aq As) a6
    have iu:=o0.ext g1 a6
    refine Af 1 Z<|AO (vs:=[c2,zI<|DC ot (Hw aD cs29 gs29).code]) c2 Z Z Ac<|AO (vs:=[c2,zI<|DC ot (Hw aD cs29 gs29).code]) (zI<|DC ot (Hw aD cs29 gs29).code) Z Z Ac<|Ae 2 Z<|fQ [2,0,3,0,0,0,0,0] Z<|AC (p:=zP px.heap.size) (.inr Z) [zI i13,f2,fr,f3] BE Z (fun pz ah=>LD.of_box<|BX.ext (w:=qk) c4 ah) Z Ac<|Af 1 Z<|Ay 15 [] [] [.agg #[zI i13,f2,fr,f3],c5] Z Z bJ Ac (Gb _ aD (i13) f2 fr f3 fd (fs) _ _ ae kt.rn ku.rn iu.rn c3.rd1 oM hTR hot) ?_
    rintro ql q7 ⟨rfl,a1⟩
    refine⟨_,rfl,a1,?_⟩
    have o3:=a1.size
    have kv:=o2.trans a1
    have ck:=i6.ext (An<|B4 153 6) a1
    have cm:=i7.ext (o1) a1
    have cn:=i8.ext (o1) a1
    have co:=i9.ext a1
    have az:=c3.ext (o1) a1
    have cp:=ia.ext (o1) a1
    have cq:=ib.ext (o1) a1
    have cr:=c4.ext a1
    have b0:=ic.ext (An Ap) a1
    have b1:=id.ext (An As) a1
    have b2:=ie.ext (o1) a1
    have b3:=ig.ext a1
    have ct:=ih.ext (An Ap) a1
    have cu:=ii.ext (An As) a1
    have cv:=ij.ext (o1) a1
    have bh:=c8.ext (o1) a1
    have bi:=jk.ext (o1) a1
    have kw:=kt.ext (Aq Ap) a1
    have kx:=ku.ext (Aq As) a1
    have ky:=iu.ext g1 a1
    refine Af 1 Z<|AO (vs:=[.bool (if DC ot fd.code=0 then Rj (Ly ot fd.code) fd.grd else false),zI<|DC ot fd.code]) (.bool (if DC ot fd.code=0 then Rj (Ly ot fd.code) fd.grd else false)) Z Z Ac<|AO (vs:=[.bool (if DC ot fd.code=0 then Rj (Ly ot fd.code) fd.grd else false),zI<|DC ot fd.code]) (zI<|DC ot fd.code) Z Z Ac<|Ae 2 Z<|fQ [2,0,3,0,0,0,0,0] Z<|AC (p:=zP q0.heap.size) (.inr Z) [zI i13,f1,vg29,vx29] BE Z (fun pz ah=>LD.of_box<|BX.ext (w:=q7) b3 ah) Z Ac<|Af 1 Z ?_
    refine Ay 15 [] [] [.agg #[zI i13,f1,vg29,vx29],c5] Z Z bJ Ac (Gb _ aD (i13) f1 vg29 vx29 (Hw aD cs29 gs29) (os29) _ _ ae (Ez b0) (Gq b1) (I4 b2) az.rd1 oM hTO hot) ?_
    rintro qm q8 ⟨rfl,a2⟩
    refine⟨_,rfl,a2,?_⟩
    have o4:=a2.size
    have kz:=kv.trans a2
    have cw:=ck.ext (An<|B4 153 6) a2
    have cx:=cm.ext (o1) a2
    have cy:=cn.ext (o1) a2
    have cz:=co.ext a2
    have b4:=az.ext (o1) a2
    have b5:=cp.ext (o1) a2
    have d0:=cq.ext (o1) a2
    have b6:=cr.ext a2
    have d1:=b0.ext (An Ap) a2
    have d2:=b1.ext (An As) a2
    have d3:=b2.ext (o1) a2
    have d4:=b3.ext a2
    have d5:=ct.ext (An Ap) a2
    have d6:=cu.ext (An As) a2
    have d7:=cv.ext (o1) a2
    have bj:=bh.ext (o1) a2
    have bk:=bi.ext (o1) a2
    have iv:=kw.ext (Aq Ap) a2
    have iw:=kx.ext (Aq As) a2
    have ix:=ky.ext g1 a2
    refine Af 1 Z<|AO (vs:=[.bool (if DC ot (Hw aD cs29 gs29).code=0 then Rj (Ly ot (Hw aD cs29 gs29).code) (Hw aD cs29 gs29).grd else false),zI<|DC ot (Hw aD cs29 gs29).code]) (.bool (if DC ot (Hw aD cs29 gs29).code=0 then Rj (Ly ot (Hw aD cs29 gs29).code) (Hw aD cs29 gs29).grd else false)) Z Z Ac<|AO (vs:=[.bool (if DC ot (Hw aD cs29 gs29).code=0 then Rj (Ly ot (Hw aD cs29 gs29).code) (Hw aD cs29 gs29).grd else false),zI<|DC ot (Hw aD cs29 gs29).code]) (zI<|DC ot (Hw aD cs29 gs29).code) Z Z Ac<|Ae 2 Z<|fQ [2,0,0,3,0,0,0,0,0] Z ?_
    refine AC (p:=zP px.heap.size) (.inr Z) [zI i13,f2,fr,f3] BE Z (fun pz ah=>LD.of_box<|BX.ext (w:=q8) b6 ah) Z Ac<|Af 2 Z<|Ay 16 [] [] [.agg #[zI i13,f2,fr,f3],c5,ca] Z Z bK Ac (Md _ aD (i13) f2 fr f3 fd (fs) _ _ _ _ ae iv.rn iw.rn ix.rn b4.rd1 b5.rd1 oM hTR (by exact hTR.at hot.2 hot.1 it) hot.1 (by exact⟨hxw,hwt.2⟩)) ?_
    rintro qn q9 ⟨ai,rfl,a3,ik⟩
    refine⟨_,rfl,a3,?_⟩
    have o5:=a3.size
    have l0:=kz.trans a3
    have d8:=cw.ext (An<|B4 153 6) a3
    have d9:=cx.ext (o1) a3
    have da:=cy.ext (o1) a3
    have db:=cz.ext a3
    have b7:=b4.ext (o1) a3
    have b8:=b5.ext (o1) a3
    have dc:=d0.ext (o1) a3
    have dd:=b6.ext a3
    have b9:=d1.ext (An Ap) a3
    have ba:=d2.ext (An As) a3
    have bb:=d3.ext (o1) a3
    have bc:=d4.ext a3
    have de:=d5.ext (An Ap) a3
    have df:=d6.ext (An As) a3
    have dg:=d7.ext (o1) a3
    have bl:=bj.ext (o1) a3
    have bm:=bk.ext (o1) a3
    have l1:=iv.ext (Aq Ap) a3
    have l2:=iw.ext (Aq As) a3
    have l3:=ix.ext g1 a3
    refine Af 1 Z<|AO (vs:=[ai,zI 0]) ai Z Z Ac<|AO (vs:=[ai,zI 0]) (zI 0) Z Z Ac<|Ae 2 Z<|fQ [2,0,0,3,0,0,0,0,0] Z<|AC (p:=zP q0.heap.size) (.inr Z) [zI i13,f1,vg29,vx29] BE Z (fun pz ah=>LD.of_box<|BX.ext (w:=q9) bc ah) Z Ac<|Af 2 Z<|Ay 16 [] [] [.agg #[zI i13,f1,vg29,vx29],c5,ca] Z Z bK Ac (Md _ aD (i13) f1 vg29 vx29 (Hw aD cs29 gs29) (os29) _ _ _ _ ae (Ez b9) (Gq ba) (I4 bb) b7.rd1 b8.rd1 oM hTO (by exact hTO.at hot.2 hot.1 m2) hot.1 (by exact⟨zO,hwt.2⟩)) ?_
    rintro qo qp ⟨ao,rfl,a0,il⟩
    refine⟨_,rfl,a0,?_⟩
    have o6:=a0.size
    have l4:=l0.trans a0
    have dh:=d8.ext (An<|B4 153 6) a0
    have di:=d9.ext (o1) a0
    have dj:=da.ext (o1) a0
    have dk:=db.ext a0
    have dl:=b7.ext (o1) a0
    have bd:=b8.ext (o1) a0
    have dm:=dc.ext (o1) a0
    have dn:=dd.ext a0
    have dp:=b9.ext (An Ap) a0
    have dq:=ba.ext (An As) a0
    have dt:=bb.ext (o1) a0
    have du:=bc.ext a0
    have dv:=de.ext (An Ap) a0
    have dw:=df.ext (An As) a0
    have dx:=dg.ext (o1) a0
    have aj:=bl.ext (o1) a0
    have bn:=bm.ext (o1) a0
    have be:=ik.ext (o1) a0
    have l5:=l1.ext (Aq Ap) a0
    have l6:=l2.ext (Aq As) a0
    have l7:=l3.ext g1 a0
    refine Af 1 Z<|AO (vs:=[ao,zI 0]) ao Z Z Ac<|AO (vs:=[ao,zI 0]) (zI 0) Z Z Ac<|Ae 2 Z<|A0<|fQ [0,0,0,0,0,0,0,0,0,0,0,0,0,0,0,0,0,0] Z<|Af 1 Z ?_
    have l8:¬(DC ot (Hw aD cs29 gs29).code≠((0:Nat):Int)):=(fun h9=>h9 m2)
    refine Be false Z Z (A8 l8) Ac<|Af 2 Z ?_
    have l9:¬(DC ot fd.code≠((0:Nat):Int)):=(fun h9=>h9 it)
    refine Be false Z Z (A8 l9) (Ag (e:=161) Z Z Z)<|Af 3 Z ?_
    have lc:¬(DC ot (Hw aD cs29 gs29).code≠((0:Nat):Int)):=(fun h9=>h9 m2)
    refine Be false Z Z (A8 lc) (Ag (e:=165) Z Z Z)<|Af 3 Z ?_
    have le:¬(0≠((0:Nat):Int)):=(fun h9=>h9 Z)
    refine Be false Z Z (A8 le) (Ag (e:=169) Z Z Z)<|Af 3 Z ?_
    have lf:¬(0≠((0:Nat):Int)):=(fun h9=>h9 Z)
    refine Be false Z Z (A8 lf) (Ag (e:=173) Z Z Z)<|Ae 1 Z<|Ak Z<|A4<|fQ [0,0,0,0,0,0,0,0,3,0,0,0,0,0,0,0,0,0,0,0,0,0,0,0,0,3,0,0] Z ?_
    have hgdE:=Zg hot.2 hot.1 hTR hKO it
    have hgdT:((if DC ot fd.code=0 then Rj (Ly ot fd.code) fd.grd else false) == (if DC ot (Hw aD cs29 gs29).code=0 then Rj (Ly ot (Hw aD cs29 gs29).code) (Hw aD cs29 gs29).grd else false))=true:=by rw[if_pos it,if_pos m2];exact beq_iff_eq.2 hgdE.symm
    have hvl:(UF ot fd.code fs).length=fs.length:=VH it
    refine Af 1 Z<|AU (v:=ay) Bu Z aj.isSl Ac<|Af 1 Z<|AU (v:=ca) Bu Z bd.isSl Ac ?_
    have lg:(((UF ot fd.code fs).length:Nat):Int)=(ws.length:Int):=oM
    refine Av true Z Z (A7 lg) Ac<|Af 3 Z<|Ay 17 [] [] [ay,c2] Z Z bL (Ag (e:=182) Z Z Z) (ID _ _ _ _ _ aj.rd1 bn.rd1) ?_
    rintro qq qr ⟨rfl,a4⟩
    refine⟨_,rfl,a4,?_⟩
    have o7:=a4.size
    have iy:=l4.trans a4
    have dy:=dh.ext (An<|B4 153 6) a4
    have bf:=di.ext (o1) a4
    have dz:=dj.ext (o1) a4
    have e0:=dk.ext a4
    have e2:=dl.ext (o1) a4
    have e4:=bd.ext (o1) a4
    have e5:=dm.ext (o1) a4
    have e6:=dn.ext a4
    have e7:=dp.ext (An Ap) a4
    have e8:=dq.ext (An As) a4
    have ea:=dt.ext (o1) a4
    have eb:=du.ext a4
    have ec:=dv.ext (An Ap) a4
    have ed:=dw.ext (An As) a4
    have ee:=dx.ext (o1) a4
    have ag:=be.ext (o1) a4
    have bg:=il.ext (o1) a4
    have lh:=l5.ext (Aq Ap) a4
    have li:=l6.ext (Aq As) a4
    have lj:=l7.ext g1 a4
    rw[show(decide ((UF ot fd.code fs)=(UF ot (Hw aD cs29 gs29).code os29)))=true from A7 (KY hot.2 hot.1 hTR hKO it).2.symm]
    refine Af 4 Z ?_
    cases iz:((if DC ot fd.code=0 then Rj (Ly ot fd.code) fd.grd else false) == (if DC ot (Hw aD cs29 gs29).code=0 then Rj (Ly ot (Hw aD cs29 gs29).code) (Hw aD cs29 gs29).grd else false))
    ·
      exact Sl false u4 Z Z iz (Ag (e:=187) Z Z Z)<|Ae 14 Z<|A3<|Al [4] Z (.bool false) Z ⟨UB,iy⟩
    refine Sl true u4 Z Z iz (Ag (e:=187) Z Z Z)<|Af 3 Z<|AU (v:=ai) Bu Z ag.isSl (Ag (e:=192) Z Z Z)<|Af 1 Z<|AU (v:=vaD) Bu Z bf.isSl (Ag (e:=192) Z Z Z) ?_
    have lk:(((CH (Lx 2 fd fs ws (Eh ot ot 2))).length:Nat):Int)=(aD.length:Int):=(by rw[CN,Ii,CE];omega)
    refine Av true Z Z (A7 lk) (Ag (e:=192) Z Z Z)<|Af 4 Z<|Ay 17 [] [] [ai,ao] Z Z bL (Ag (e:=199) Z Z Z) (ID _ _ _ _ _ ag.rd1 bg.rd1) ?_
    rintro qs qt ⟨rfl,a5⟩
    refine⟨_,rfl,a5,?_⟩
    have o8:=a5.size
    have ll:=iy.trans a5
    have lm:=dy.ext (An<|B4 153 6) a5
    have ln:=bf.ext (o1) a5
    have lo:=dz.ext (o1) a5
    have lp:=e0.ext a5
    have lq:=e2.ext (o1) a5
    have lr:=e4.ext (o1) a5
    have ls:=e5.ext (o1) a5
    have lu:=e6.ext a5
    have lv:=e7.ext (An Ap) a5
    have lw:=e8.ext (An As) a5
    have lx:=ea.ext (o1) a5
    have ly:=eb.ext a5
    have lz:=ec.ext (An Ap) a5
    have m0:=ed.ext (An As) a5
    have m1:=ee.ext (o1) a5
    have p2:=lh.ext (Aq Ap) a5
    have p3:=li.ext (Aq As) a5
    have p4:=lj.ext g1 a5
    rw[show(decide ((CH (Lx 2 fd fs ws (Eh ot ot 2)))=(CH (Lx 2 (Hw aD cs29 gs29) os29 ws (Eh ot ot 2)))))=true from A7 (Zh hot.2 hot.1 hTR hKO it hTO)]
    exact Ae 2 Z<|A3<|Al [4] Z (.bool true) Z ⟨UB,ll⟩
  exact Ah (by first|rfl|exact zW o9)<|fR Z<|A3<|At<|Al [4] Z (.bool true) Z ⟨UB,m5⟩
end
end Go.Proofs.YtemfgblmfahllaaGreat
