/- Wb, La, Lc, In, Ib, Ld, Lb, Le, Lh, Wc, Wd: texts of this claim, joined; what the claim does not come to is left out. -/
import Derived.Test.YtlbefjfhfodnlaaDoorQA1
import Derived.Test.YtlbefjfhfodnlaaDoorProg
import Derived.Lib.Split
import Derived.Lib.ParseIntB
import Derived.Lib.IndexBytes
import Derived.Lib.ItoaNum
import Derived.Lib.Join
import Derived.WideLaws
import Derived.Shelf.LaySoft
import Derived.Shelf.Strings.OnBuilder
import Derived.Shelf.Small.Strs
import Derived.Shelf.LaysM
import Derived.Shelf.LaysC
import Derived.Shelf.Strconv.Itoa4
import Derived.Shelf.Strconv.ParseIntPublic10
import Derived.Shelf.Strings.Split
import Derived.Ground.NamesProg
import Derived.WalkSmall
import Derived.Lib.LaidU8
import Derived.LaidLaws
set_option linter.unusedVariables false
set_option linter.unusedSimpArgs false
namespace Go.Proofs.YtlbefjfhfodnlaaDoor
open Go Go.RowKit
set_option linter.unusedVariables false
set_option linter.unusedSimpArgs false
set_option maxHeartbeats 4000000
set_option maxRecDepth 100000
attribute [local irreducible] LW
theorem z61G_0 {p:Prop} (h:p:=by first | (rw [decB_lo oM]; exact dig_eq hk.1 oM) | (rw [dig_eqm hk.1,decB_hi (n:=n.toNat) oM,show (n / 10).toNat = n.toNat / 10 from by omega])):p:=h
theorem c_spec_DecimalG (w:World) (n:Int) (_hn:-9223372036854775808≤n∧n≤9223372036854775807) (hk:0≤n∧n≤9000000000000000) (IH:∀ (m:Int),0≤m→m < n→∀ w1:World,Calls Tryd.prog 61 #[.int .i64 m] w1 fun e w'=>∃ s,e = .returned (.string s)∧Ext w1 w'∧s = decB (m).toNat) :
  Calls Tryd.prog 61 #[.int .i64 n] w (fun e w'=>∃ s,e = .returned (.string s)∧Ext w w'∧s = decB (n).toNat):=by
 refine calls_mk [.int .i64 n] 20 Tryd.func61 rfl rfl sM ?_
 have hE0:Ext w w:=Ext.refl w
 have htm:0≤n.tmod ((10 :Nat):Int)∧n.tmod ((10 :Nat):Int) < 10:=⟨Int.tmod_nonneg _ oM,Int.tmod_lt_of_pos _ oM⟩
 refine wp_seq (wp_plain _ [0] rfl (lw_tvn 1 rfl (wp_seq (wp_seq (wp_plain _ [0,0] rfl (lw_tv 1 rfl ?_))))))
 by_cases hc1:n < ((10 :Nat):Int)
 ·
  refine q_lss true rfl rfl (decide_eq_true hc1) zN (lw_nil (c_cond_t rfl (wp_seq (wp_plain _ [0,0,0,3,2,0] rfl (lw_tv 1 rfl ?_)))))
  refine q_add (((48 :Nat):Int) + n) rfl rfl (w64 sD sD) zN (q_conv (IntKind.u8.wrap (((48 :Nat):Int) + n)) u2 u5 rfl rfl zN ?_)
  refine r_one (u:=(.int .u8 (IntKind.u8.wrap (((48 :Nat):Int) + n)))) (B:=w.heap.size) good_rV u22 ti5 rfl rfl (frV (w.heap.size) (w.heap.size) _ ⟨rfl,rfl⟩) (Nat.le_refl _) zN fun v2 w2 hX2 hz2 hO2=>?_
  have hzs2:w.heap.size≤w2.heap.size:=hX2.size
  have hE2:Ext w w2:=hE0.trans hX2
  exact q_byteE u22 u5 u9 rfl hO2 zN (lw_tvn 1 rfl (wp_ret (t_ret (post_ret [2] rfl (.string (⟨#[UInt8.ofNat (IntKind.u8.wrap (((48 :Nat):Int) + n)).toNat]⟩:ByteArray)) rfl ⟨(⟨#[UInt8.ofNat (IntKind.u8.wrap (((48 :Nat):Int) + n)).toNat]⟩:ByteArray),rfl,hE2,z61G_0⟩))))
 ·
  refine q_lss false rfl rfl (decide_eq_false hc1) zN (lw_nil (c_cond_f rfl (wp_skip (wp_seq (wp_drawV _ [0,0,5,0,0,0,0,5,5,0,0] mixed (by kernel_rfl) (RsL [(2,fun _=>sF (decB (n / 10).toNat)),(7,fun _=>lF (owL rV 5) [.int .u8 (IntKind.u8.wrap (((48 :Nat):Int) + n.tmod ((10 :Nat):Int)))]),(8,fun _=>sF (⟨#[UInt8.ofNat (IntKind.u8.wrap (((48 :Nat):Int) + n.tmod ((10 :Nat):Int))).toNat]⟩:ByteArray))]) (stb_cons (fun _ _ _ _ _ _ _ h=>h) (fun _ _ _ _ _ _ _ h=>h) (stb_cons (fun _=>lF_st oV) (fun _ _ _ _ _ _ _ h=>h) (stb_cons (fun _ _ _ _ _ _ _ h=>h) (fun _ _ _ _ _ _ _ h=>h) stb_nil))) (LV.j (by decide) (lw_tvn 1 rfl (LV.j (by decide) (q_quo (n / 10) rfl rfl (by decide) (by rw [Int.tdiv_eq_ediv_of_nonneg oM,w64 oM oM]) zN (lw_nil ?_))))))))))
  refine LV.r zN rfl (fun wa4 hWa4 hDa4=>?_) (fun v4 lo4 hi4 w4 hX4 ha4 hb4 hc4 hD4 hR4=>?_)
  ·
   replace hWa4:=hWa4.of_drew
   have hzsa4:w.heap.size≤wa4.heap.size:=hWa4.size
   have hEa4:Ext w wa4:=hE0.trans hWa4
   have hcl5:=IH (n / 10) oM oM wa4
   refine lw_call 61 [] [] [(.int .i64 (n / 10))] rfl rfl cf61 zN hcl5 ?_
   rintro e5 w5 ⟨_,rfl,hX5,rfl⟩
   refine ⟨_,rfl,hX5,?_⟩
   have hzs5:wa4.heap.size≤w5.heap.size:=hX5.size
   have hE5:Ext w w5:=hEa4.trans hX5
   exact lw_nil ⟨_,rfl,rfl⟩
  replace hX4:=hX4.of_drew
  have hzs4:w.heap.size≤w4.heap.size:=hX4.size
  have hE4:Ext w w4:=hE0.trans hX4
  have hzl4:w.heap.size≤lo4:=ha4
  obtain rfl:v4 = .string (decB (n / 10).toNat):=hR4
  refine LV.j (by decide) (lw_tvn 1 rfl (LV.j (by decide) (q_rem (n.tmod ((10 :Nat):Int)) rfl rfl (by decide) rfl zN (lw_nil (LV.j (by decide) (q_add (((48 :Nat):Int) + n.tmod ((10 :Nat):Int)) rfl rfl (w64 oM oM) zN (lw_nil (LV.j (by decide) (q_conv (IntKind.u8.wrap (((48 :Nat):Int) + n.tmod ((10 :Nat):Int))) u2 u5 rfl rfl zN (lw_nil (LV.r zN rfl (fun wa6 hWa6 hDa6=>?_) (fun v6 lo6 hi6 w6 hX6 ha6 hb6 hc6 hD6 hR6=>?_))))))))))))
  ·
   replace hWa6:=hWa6.of_drew
   have hzsa6:w.heap.size≤wa6.heap.size:=hWa6.size
   have hEa6:Ext w wa6:=hE0.trans hWa6
   refine r_one (u:=(.int .u8 (IntKind.u8.wrap (((48 :Nat):Int) + n.tmod ((10 :Nat):Int))))) (B:=wa6.heap.size) good_rV u22 ti5 rfl rfl (frV (wa6.heap.size) (wa6.heap.size) _ ⟨rfl,rfl⟩) (Nat.le_refl _) zN fun v7 w7 hX7 hz7 hO7=>?_
   have hzs7:wa6.heap.size≤w7.heap.size:=hX7.size
   have hE7:Ext w w7:=hEa6.trans hX7
   exact lw_nil ⟨_,rfl,hO7⟩
  have hzs6:w4.heap.size≤w6.heap.size:=hX6.size
  have hE6:Ext w w6:=hE4.trans hX6
  have hzl6:w.heap.size≤lo6:=ha6
  have hq6_4:hi4≤lo6∨hi6≤lo4:=hD6 (2,_,lo4,hi4) (.head _)
  have hO6:Fr (owL rV 5) lo6 hi6 w6.heap v6 [.int .u8 (IntKind.u8.wrap (((48 :Nat):Int) + n.tmod ((10 :Nat):Int)))]:=hR6
  refine LV.r zN rfl (fun wa8 hWa8 hDa8=>?_) (fun v8 lo8 hi8 w8 hX8 ha8 hb8 hc8 hD8 hR8=>?_)
  ·
   replace hWa8:=hWa8.of_drew
   have hzsa8:w.heap.size≤wa8.heap.size:=hWa8.size
   have hEa8:Ext w wa8:=hE0.trans hWa8
   have hd8_6z:=hDa8.1 (by kernel_rfl)
   have hd8_6u:hi6≤wa8.heap.size:=hd8_6z.1
   have hd8_6:Fr (owL rV 5) lo6 hi6 wa8.heap v6 [.int .u8 (IntKind.u8.wrap (((48 :Nat):Int) + n.tmod ((10 :Nat):Int)))]:=hd8_6z.2
   exact q_byteE3 u22 u5 u9 rfl hd8_6 zN (lw_nil ⟨_,rfl,rfl⟩)
  have hzs8:w6.heap.size≤w8.heap.size:=hX8.size
  have hE8:Ext w w8:=hE6.trans hX8
  have hzl8:w.heap.size≤lo8:=ha8
  have hq8_6:hi6≤lo8∨hi8≤lo6:=hD8 (7,_,lo6,hi6) (.head _)
  have hq8_4:hi4≤lo8∨hi8≤lo4:=hD8 (2,_,lo4,hi4) (.tail _ (.head _))
  obtain rfl:v8 = .string (⟨#[UInt8.ofNat (IntKind.u8.wrap (((48 :Nat):Int) + n.tmod ((10 :Nat):Int))).toNat]⟩:ByteArray):=hR8
  exact LV.j (by decide) (q_adds (a:=decB (n / 10).toNat) (b:=(⟨#[UInt8.ofNat (IntKind.u8.wrap (((48 :Nat):Int) + n.tmod ((10 :Nat):Int))).toNat]⟩:ByteArray)) rfl rfl (by have h9:=decB_sz (n / 10).toNat; show (decB (n / 10).toNat).size + 1≤9223372036854775807; omega) zN (lw_nil (LV.j (by decide) (lw_tvn 1 rfl (LV.nil (wp_ret (post_ret [2] rfl (.string (decB (n / 10).toNat++(⟨#[UInt8.ofNat (IntKind.u8.wrap (((48 :Nat):Int) + n.tmod ((10 :Nat):Int))).toNat]⟩:ByteArray))) rfl ⟨(decB (n / 10).toNat++(⟨#[UInt8.ofNat (IntKind.u8.wrap (((48 :Nat):Int) + n.tmod ((10 :Nat):Int))).toNat]⟩:ByteArray)),rfl,hE8,z61G_0⟩)))))))
theorem c_DecimalA (w:World) (n:Int) (h0:0≤n) (h1:n≤9000000000000000):Calls Tryd.prog 61 #[.int .i64 n] w fun e w'=>∃ s,e = .returned (.string s)∧Ext w w'∧s = decB (n).toNat:=by
 have H:∀ k:Nat,∀ n:Int,0≤n→n≤9000000000000000→n.toNat < k→∀ w:World,Calls Tryd.prog 61 #[.int .i64 n] w fun e w'=>∃ s,e = .returned (.string s)∧Ext w w'∧s = decB (n).toNat:=by
  intro k
  induction k with
  | zero=>intro n _ _ h; omega
  | succ k ih=>intro n a1 a2 a3 w; exact c_spec_DecimalG w n (by omega) ⟨a1,a2⟩ fun m b1 b2 w1=>ih m b1 (by omega) (by omega) w1
 exact H (n.toNat + 1) n h0 h1 (by omega) w
end Go.Proofs.YtlbefjfhfodnlaaDoor
namespace Go.Proofs.YtlbefjfhfodnlaaDoor
open Go Go.RowKit
set_option linter.unusedVariables false
def spl:List UInt8→List (List UInt8)
  | []=>[[]]
  | c :: l=>if c = 32 then [] :: spl l else match spl l with
    | []=>[[c]]
    | a :: r=>(c :: a) :: r
theorem spl_app {w:List UInt8} (r:List UInt8) (h:(32:UInt8)∉w):spl (w++32 :: r) = w :: spl r:=by
  induction w with
  | nil=>rw [List.nil_append,spl,if_pos rfl]
  | cons c w ih =>
    rw [List.cons_append,spl,if_neg (fun e=>h (by rw [e]; exact List.mem_cons_self ..)),ih (fun m=>h (List.mem_cons_of_mem _ m))]
theorem spl_end {w:List UInt8} (h:(32:UInt8)∉w):spl w = [w]:=by
  induction w with
  | nil=>rfl
  | cons c w ih =>
    rw [spl,if_neg (fun e=>h (by rw [e]; exact List.mem_cons_self ..)),ih (fun m=>h (List.mem_cons_of_mem _ m))]
theorem idx_spec (c:UInt8):∀ l:List UInt8,(Lib.indexByte l c = -1∧c∉l)∨∃ i:Nat,Lib.indexByte l c = i∧i < l.length∧c∉l.take i∧l = l.take i++c :: l.drop (i + 1)
  | []=>.inl ⟨rfl,by simp⟩
  | b :: l=>by
    by_cases h:b = c
    · subst h
      exact .inr ⟨0,by unfold Lib.indexByte; simp,by simp,by simp,by simp⟩
    · have hb:¬ (b == c) = true:=by simpa using h
      rcases idx_spec c l with ⟨h1,h2⟩ | ⟨i,h1,h2,h3,h4⟩
      · exact .inl ⟨by unfold Lib.indexByte; rw [if_neg hb,h1]; rfl,by simp only [List.mem_cons,not_or]; exact ⟨fun e=>h e.symm,h2⟩⟩
      · refine .inr ⟨i + 1,?_,by simpa using h2,?_,?_⟩
        · unfold Lib.indexByte
          rw [if_neg hb,h1,if_neg (by rw [beq_iff_eq]; omega)]; omega
        · rw [List.take_succ_cons]; simp only [List.mem_cons,not_or]; exact ⟨fun e=>h e.symm,h3⟩
        · rw [List.take_succ_cons,List.drop_succ_cons,List.cons_append,← h4]
theorem splitK_spl:∀ (n:Nat) (s:List UInt8),s.length≤n→Lib.splitK [32] 0 (Lib.count s [32]) s = spl s:=by
  intro n
  induction n with
  | zero =>
    intro s h
    have:s = []:=List.eq_nil_of_length_eq_zero (by omega)
    subst this
    rw [Lib.count_miss (by rw [Lib.index_one]; rfl)]; rfl
  | succ n ih =>
    intro s h
    rcases idx_spec 32 s with ⟨h1,h2⟩ | ⟨i,h1,h2,h3,h4⟩
    · rw [Lib.count_miss (by rw [Lib.index_one]; exact h1),spl_end h2]; rfl
    · have hi:Lib.index s [32] = i:=by rw [Lib.index_one]; exact h1
      rw [Lib.count_hit (by simp) hi,Nat.add_comm,Lib.splitK,hi,if_neg (by rw [beq_iff_eq]; omega)]
      rw [show ((i:Nat):Int).toNat = i from by omega]
      have e:=ih (s.drop (i + [(32:UInt8)].length)) (by rw [List.length_drop]; simp only [List.length_singleton]; omega)
      rw [e,Nat.add_zero]
      conv=>rhs; rw [h4,spl_app _ h3]
      rfl
def wds (s:ByteArray):List ByteArray:=Lib.splitB ⟨#[32]⟩ 0 (Lib.countB s ⟨#[32]⟩) s
theorem wds_map (s:ByteArray):(wds s).map (·.data.toList) = spl s.data.toList:=by
  unfold wds Lib.countB
  rw [Lib.splitB_data]
  exact splitK_spl _ _ (Nat.le_refl _)
theorem spl_ne:∀ l,spl l≠[]
  | []=>by simp [spl]
  | c :: l=>by
    rw [spl]
    split
    · simp
    · split <;> simp
theorem wds_len (s:ByteArray):1≤(wds s).length∧(wds s).length = (spl s.data.toList).length:=by
  have h:=congrArg List.length (wds_map s)
  rw [List.length_map] at h
  have:=spl_ne s.data.toList
  have:0 < (spl s.data.toList).length:=List.length_pos_iff.2 this
  omega
theorem spl_length:∀ l,(spl l).length≤l.length + 1
  | []=>by simp [spl]
  | c :: l=>by
    have ih:=spl_length l
    rw [spl]
    split
    · simp; omega
    · split
      · simp
      · rename_i a r h
        rw [h] at ih
        simp at ih ⊢; omega
theorem spl_mem:∀ (l:List UInt8),∀ w∈spl l,w.length≤l.length
  | [],w,h=>by simp [spl] at h; subst h; simp
  | c :: l,w,h=>by
    have ih:=spl_mem l
    rw [spl] at h
    split at h
    · rcases List.mem_cons.1 h with rfl | h
      · simp
      · have:=ih w h; simp; omega
    · split at h
      · simp at h; subst h; simp
      · rename_i a r h'
        rw [h'] at ih
        rcases List.mem_cons.1 h with rfl | h
        · have:=ih a (List.mem_cons_self ..); simp; omega
        · have:=ih w (List.mem_cons_of_mem _ h); simp; omega
def jn:List (List UInt8)→List UInt8
  | []=>[]
  | [w]=>w
  | w :: v :: r=>w++32 :: jn (v :: r)
theorem jn_lib:∀ l:List (List UInt8),Lib.join l [32] = jn l
  | []=>rfl
  | [w]=>Lib.join_one _ _
  | w :: v :: r=>by
    rw [jn,← jn_lib (v :: r),Lib.join_cons,Lib.join_cons]
    simp [Lib.joinTail]
theorem spl_jn:∀ l:List (List UInt8),l≠[]→(∀ w∈l,(32:UInt8)∉w)→spl (jn l) = l
  | [],h,_=>absurd rfl h
  | [w],_,h=>by rw [jn]; exact spl_end (h w (by simp))
  | w :: v :: r,_,h=>by
    rw [jn,spl_app _ (h w (by simp)),spl_jn (v :: r) (by simp) fun x hx=>h x (List.mem_cons_of_mem _ hx)]
theorem jn_snoc:∀ (l:List (List UInt8)) (w:List UInt8),jn (l++[w]) = if l = [] then w else jn l++32 :: w
  | [],w=>rfl
  | [a],w=>rfl
  | a :: b :: r,w=>by
    have ih:=jn_snoc (b :: r) w
    rw [if_neg (by simp)] at ih ⊢
    show jn (a :: b :: (r++[w])) = _
    rw [jn,show b :: (r++[w]) = (b :: r)++[w] from rfl,ih,jn]
    simp
theorem jn_le {n:Nat}:∀ l:List (List UInt8),(∀ w∈l,w.length≤n)→(jn l).length≤l.length * (n + 1)
  | [],_=>by simp [jn]
  | [w],h=>by have:=h w (by simp); rw [jn]; simp; omega
  | w :: v :: r,h=>by
    have:=jn_le (v :: r) fun x hx=>h x (List.mem_cons_of_mem _ hx)
    have h1:=h w (by simp)
    rw [jn,List.length_append,List.length_cons]
    simp only [List.length_cons,Nat.add_mul] at this ⊢
    omega
theorem dg_mem {b:UInt8}:∀ (n:Nat),b∈Lib.decDigits n→48≤b.toNat∧b.toNat≤57:=by
  intro n
  induction n using Nat.strongRecOn with
  | ind n ih =>
    intro h
    rw [Lib.decDigits] at h
    have hd:∀ d:Fin 10,48≤(UInt8.ofNat (48 + d.val)).toNat∧(UInt8.ofNat (48 + d.val)).toNat≤57:=by decide
    by_cases hn:n < 10
    · rw [dif_pos hn,List.mem_singleton] at h
      subst h; exact hd ⟨n,hn⟩
    · rw [dif_neg hn,List.mem_append,List.mem_singleton] at h
      rcases h with h | h
      · exact ih (n / 10) (by omega) h
      · subst h; exact hd ⟨n % 10,by omega⟩
theorem dg_ne (n:Nat):Lib.decDigits n≠[]:=by
  rw [Lib.decDigits]; split <;> simp
theorem dg_len {n:Nat} (h:n < 100):(Lib.decDigits n).length≤2:=by
  rw [Lib.decDigits]
  by_cases h1:n < 10
  · rw [dif_pos h1]; simp
  · rw [dif_neg h1,Lib.decDigits,dif_pos (by omega)]; simp
theorem pu_app (M:Nat):∀ (l r:List UInt8) (acc:Nat),Lib.parseUintM M acc (l++r) = match Lib.parseUintM M acc l with
    | .ok a=>Lib.parseUintM M a r
    | .syntax=>.syntax
    | .range=>.range
  | [],r,acc=>rfl
  | c :: l,r,acc=>by
    rw [List.cons_append,Lib.parseUintM,Lib.parseUintM]
    split
    · split
      · rfl
      · split
        · rfl
        · exact pu_app M l r _
    · rfl
theorem pu_dg {M:Nat} (hM:M < 18446744073709551616):∀ n:Nat,n≤M→n≤9223372036854775807→Lib.parseUintM M 0 (Lib.decDigits n) = .ok n:=by
  intro n
  induction n using Nat.strongRecOn with
  | ind n ih =>
    intro h1 h2
    have hd:∀ d:Fin 10,(UInt8.ofNat (48 + d.val)).toNat = 48 + d.val:=by decide
    rw [Lib.decDigits]
    by_cases hn:n < 10
    · have:=hd ⟨n,hn⟩
      dsimp only at this
      rw [dif_pos hn,Lib.parseUintM,this,if_pos (by omega),if_neg (by omega),if_neg (by omega)]
      simp [Lib.parseUintM]
    · have:=hd ⟨n % 10,by omega⟩
      dsimp only at this
      rw [dif_neg hn,pu_app,ih (n / 10) (by omega) (by omega) (by omega)]
      show Lib.parseUintM M (n / 10) [UInt8.ofNat (48 + n % 10)] = _
      rw [Lib.parseUintM,this,if_pos (by omega),if_neg (by omega),if_neg (by omega),Lib.parseUintM]
      congr 1; omega
theorem pi_dg {n:Nat} (h:n≤9223372036854775807):Lib.parseIntB 64 (Lib.decDigits n) = .ok (n:Int):=by
  have hm:∀ b∈Lib.decDigits n,48≤b.toNat∧b.toNat≤57:=fun b hb=>dg_mem n hb
  have hp:=pu_dg (M:=2 ^ 64 - 1) (by decide) n (by omega) h
  have hne:=dg_ne n
  cases hl:Lib.decDigits n with
  | nil=>exact absurd hl hne
  | cons c r =>
    have hc:=hm c (by rw [hl]; exact List.mem_cons_self ..)
    rw [hl] at hp
    unfold Lib.parseIntB
    dsimp only
    rw [if_neg (show ¬ (c.toNat = 43∨c.toNat = 45) by omega)]
    unfold Lib.parseUintB
    rw [if_neg (by simp),hp]
    dsimp only
    rw [if_neg (by omega),if_neg (by omega),if_neg (by omega)]
end Go.Proofs.YtlbefjfhfodnlaaDoor
namespace Go.Proofs.YtlbefjfhfodnlaaDoor
open Go Go.RowKit
set_option linter.unusedVariables false
set_option linter.unusedSimpArgs false
def rT:Stand ByteArray:=fun _ v x F=>v = .string x∧F = []
theorem good_rT:Good rT:=⟨fun h=>by rw [h.1]; rfl,fun h=>by rw [h.1]; rfl,fun h b hb=>(by rw [h.2] at hb; cases hb),fun h _=>h⟩
theorem oT {e:TypeId}:Good (owL rT e):=good_owL good_rT
theorem frT {B U:Nat} {H:Array Obj} (x:ByteArray):Fr rT B U H (.string x) x:=⟨[],⟨rfl,rfl⟩,List.nodup_nil,fun b hb=>by cases hb⟩
theorem Rd.getT {H:Array Obj} {v:Value} {xs:List ByteArray} {k:Nat} (h:Rd (rdL rT) H v xs) (hk:k < xs.length):ldH H (eptr v k 1) = some (.string (xs.getD k ByteArray.empty)):=by
  obtain ⟨u,h1,F,h2,_⟩:=Rd.get ByteArray.empty h hk
  rw [h1,h2]
theorem Fr.rdT {e:TypeId} {B U:Nat} {H:Array Obj} {v:Value} {xs:List ByteArray} (h:Fr (owL rT e) B U H v xs):Rd (rdL rT) H v xs:=h.rd id
theorem Fr.getT {e:TypeId} {B U:Nat} {H:Array Obj} {v:Value} {xs:List ByteArray} {k:Nat} (h:Fr (owL rT e) B U H v xs) (hk:k < xs.length):ldH H (eptr v k 1) = some (.string (xs.getD k ByteArray.empty)):=h.rdT.getT hk
section ops
variable {P:Program} {ops:Array Oper} {w0:World} {Q:Act→World→Prop} {os:List Oper} {ks:List Nat} {N:Nat} {ρ:Nat→Value} {w:World}
  {d:Nat} {ty:TypeId} {pos:String} {aft:Array Edge} {g:Option (Nat × Bool)} {t e:TypeId} {z:Value} {b:Nat}
theorem q_slS {x y z:Operand} {s:ByteArray} {i k:Int} (a b:Nat) (ht:P.underlying t = some .string) (hx:evF N ρ x = .string s) (hy:evF N ρ y = .int .i64 i) (hz:evF N ρ z = .int .i64 k) (hi:i = (a:Int)) (hk:k = (b:Int)) (hab:a≤b) (hb:b≤s.size) (hu:Up ops N ρ ⟨some d,.slice t x (some y) (some z) none,ty,pos,aft,g⟩)
    (h:LW P ops w0 Q os ks (mk N (upd ρ d (.string (s.extract a b)))) w):LW P ops w0 Q (⟨some d,.slice t x (some y) (some z) none,ty,pos,aft,g⟩ :: os) (0 :: ks) (mk N ρ) w:=by
  subst hi; subst hk
  refine lw_q (by decide) rfl hu _ (fun w' _=>?_) h
  simp [execOp,hx,hy,hz,Instr.sliceAt,Instr.slice,Instr.sliceBounds,Instr.sliceBound,asIntOf,run_underlying ht,hab,hb]
theorem q_slT {x y:Operand} {s:ByteArray} {i:Int} (a:Nat) (ht:P.underlying t = some .string) (hx:evF N ρ x = .string s) (hy:evF N ρ y = .int .i64 i) (hi:i = (a:Int)) (ha:a≤s.size) (hu:Up ops N ρ ⟨some d,.slice t x (some y) none none,ty,pos,aft,g⟩)
    (h:LW P ops w0 Q os ks (mk N (upd ρ d (.string (s.extract a s.size)))) w):LW P ops w0 Q (⟨some d,.slice t x (some y) none none,ty,pos,aft,g⟩ :: os) (0 :: ks) (mk N ρ) w:=by
  subst hi
  refine lw_q (by decide) rfl hu _ (fun w' _=>?_) h
  simp [execOp,hx,hy,Instr.sliceAt,Instr.slice,Instr.sliceBounds,Instr.sliceBound,asIntOf,run_underlying ht,ha]
end ops
theorem fr_newT {w:World} {e:TypeId} (xs:List ByteArray) (hl:xs.length≤maxLen):Fr (owL rT e) w.heap.size (w.alloc (.cells (xs.map Value.string).toArray e)).heap.size (w.alloc (.cells (xs.map Value.string).toArray e)).heap (.slice (some ⟨w.heap.size,0,none⟩) xs.length xs.length) xs:=by
  have hels:∀ (H:Array Obj) (xs:List ByteArray),els rT H (xs.map Value.string) xs []:=by
    intro H xs
    induction xs with
    | nil=>rfl
    | cons x xs ih=>exact ⟨[],[],rfl,⟨rfl,rfl⟩,ih⟩
  have hn:=owL_new (e:=e) (w:=w) good_rT (us:=xs.map Value.string) (xs:=xs) (F:=[]) (cur:=(xs.map Value.string).toArray) (hels _ xs) (by simp; omega) (by show List.take _ (List.map Value.string xs) = _; exact List.take_of_length_le (by simp)) (by simp)
  simp only [List.length_map,List.size_toArray] at hn
  refine ⟨_,by simpa using hn,by simp,fun c hc=>?_⟩
  simp at hc
  subst hc
  simp
end Go.Proofs.YtlbefjfhfodnlaaDoor
namespace Go.Proofs.YtlbefjfhfodnlaaDoor
open Go Go.RowKit
set_option linter.unusedVariables false
set_option linter.unusedSimpArgs false
theorem RN.of_frA {S:List Nat} {e:TypeId} {B U:Nat} {H:Array Obj} {v:Value} {xs:List Av} (h:Fr (owS 2 rAv e) B U H v xs) (hS:∀ b∈S,b < B∨U≤b):RN S (rdS 2 rAv) H v xs:=by
  obtain ⟨F,h1,_,h3⟩:=h
  exact ⟨F,h1.rd good_rAv,fun b hb hm=>by have:=h3 b hb; have:=hS b hm; omega⟩
end Go.Proofs.YtlbefjfhfodnlaaDoor
namespace Go.Proofs.YtlbefjfhfodnlaaDoor
open Go Go.RowKit
set_option linter.unusedVariables false
set_option linter.unusedSimpArgs false
section el
variable {α:Type} {E:StandN α} {s:Nat} {e:TypeId} {H:Array Obj} {v:Value} {F:List Nat}
theorem owS.len_eq {xs ys:List α} {F:List Nat} (h:owS s E e H v xs F) (hl:ys.length = xs.length) (hx:xs≠[]):∃ css g cap cur F',elsN E H css xs F'∧v = .slice (some ⟨g,0,none⟩) ys.length cap∧H[g]? = some (.cells cur e (0,0))∧ys.length≤cap∧cap≤maxLen∧cur.size = cap * s∧cur.toList.take (ys.length * s) = css.flatten∧F = g :: F':=by
  rcases h with ⟨_,rfl,_⟩ | ⟨css,g,cap,cur,F',h1,h2⟩
  · exact absurd rfl hx
  · rw [hl]; exact ⟨css,g,cap,cur,F',h1,h2⟩
end el
section ops
variable {P:Program} {ops:Array Oper} {w0:World} {Q:Act→World→Prop} {os:List Oper} {ks:List Nat} {N:Nat} {ρ:Nat→Value} {w:World}
  {d:Nat} {ty:TypeId} {pos:String} {aft:Array Edge} {g:Option (Nat × Bool)} {t e:TypeId} {α:Type} {E:StandN α} {s:Nat}
theorem e_setCO {st:TypeId} {x y:Operand} {v u:Value} {L R:List α} {z z':α} {F:List Nat} {k c:Nat} (hE:GoodN s E) (hst:(P.info? st).map (·.size) = some 1) (hx:evF N ρ x = padd (eptr v k s) c) (hy:evF N ρ y = u) (hu1:u.cells = #[u]∧u.oneCell' = true)
    (hv:owS s E e w.heap v (L++z :: R) F) (hn:F.Nodup) (hk:k = L.length) (hc:c < s) (hEc:∀ {H cs G},E H cs z G→E H (cs.set c u) z' G) (hu:Up ops N ρ ⟨none,.store st x y,ty,pos,aft,g⟩)
    (h:∀ w1,Chg F w w1→w1.heap.size = w.heap.size→owS s E e w1.heap v (L++z' :: R) F→LW P ops w0 Q os ks (mk N ρ) w1) :
    LW P ops w0 Q (⟨none,.store st x y,ty,pos,aft,g⟩ :: os) (4 :: ks) (mk N ρ) w:=by
  subst hk
  obtain ⟨css,b,cap,cur,F',hels,rfl,hg,r1,r2,r3,r4,rfl⟩:=hv.len_eq (ys:=L++z' :: R) (by simp) (by simp)
  have hn':=List.nodup_cons.1 hn
  have hfl:=hels.flen hE
  have hlen:=hels.lens hE
  have hkl:L.length < css.length:=by rw [hels.length]; simp
  have hll:(L++z :: R).length = (L++z' :: R).length:=by simp
  have hcs:(L++z' :: R).length * s≤cur.size:=by rw [r3]; exact Nat.mul_le_mul_right s r1
  have hjs:L.length * s + s≤(L++z' :: R).length * s:=by rw [← Nat.succ_mul]; exact Nat.mul_le_mul_right s (by simp)
  have hel:∀ {css:List (List Value)} {L:List α} {F:List Nat},elsN E w.heap css (L++z :: R) F→∀ cs,css[L.length]? = some cs→elsN E w.heap (css.set L.length (cs.set c u)) (L++z' :: R) F:=by
    intro css
    induction css with
    | nil=>intro L F h cs hk; simp at hk
    | cons a css ih =>
      intro L F h cs hk
      cases L with
      | nil =>
        obtain ⟨A,C,rfl,q1,q2⟩:=h
        have:a = cs:=by simpa using hk
        subst this
        exact ⟨A,C,rfl,hEc q1,q2⟩
      | cons x L =>
        obtain ⟨A,C,rfl,q1,q2⟩:=h
        exact ⟨A,C,rfl,q1,ih q2 cs (by simpa using hk)⟩
  have hq:=List.getElem?_eq_getElem hkl
  have h2:=hel hels _ hq
  refine lw_s rfl hu _ (exec_store (p:=.pointer (some ⟨b,L.length * s + c,none⟩)) (by rw [hx,eptr_s,Nat.zero_add]; rfl) hy (run_store1 hst hg (by omega) hu1.1 hu1.2)) (h _ ((chg_set w b (L.length * s + c) u).sub fun x hx=>by rw [List.mem_singleton.1 hx]; exact List.mem_cons_self ..) (by simp [World.setCell]) (.inr ⟨css.set L.length (css[L.length].set c u),b,cap,_,F',?_,rfl,heap_set hg,r1,r2,by simpa using r3,?_,rfl⟩))
  · exact h2.stable hE fun z hz=>Below.heap_setCell _ _ _ _ fun he=>by
      simp only at he
      subst he
      exact hn'.1 hz
  · rw [Array.toList_setIfInBounds,List.take_set,r4]; exact flat_set1 hlen hq hc
end ops
end Go.Proofs.YtlbefjfhfodnlaaDoor
namespace Go.Proofs.YtlbefjfhfodnlaaDoor
open Go Go.RowKit
set_option linter.unusedVariables false
set_option linter.unusedSimpArgs false
def mkAv (k:Int) (n:Nat):List Av:=tab n fun i=>⟨k + 2 * ((i:Nat):Int),k + 2 * ((i:Nat):Int) + 1⟩
@[simp] theorem mkAv_len (k:Int) (n:Nat):(mkAv k n).length = n:=tab_len _ _
theorem mkAv_at {k:Int} {n i:Nat} (h:i < n):(mkAv k n).getD i Av.zero = ⟨k + 2 * ((i:Nat):Int),k + 2 * ((i:Nat):Int) + 1⟩:=tab_get _ h
def mkT (k:Int) (j:Nat) (a:List Av):List Av:=mkAv k j++a.drop j
theorem mkT_len {k:Int} {j:Nat} {a:List Av} (h:j≤a.length):(mkT k j a).length = a.length:=by unfold mkT; simp; omega
theorem mkT_all {k:Int} {a:List Av}:mkT k a.length a = mkAv k a.length:=by unfold mkT; simp
theorem mkT_set {k:Int} {j:Nat} {a:List Av} (h:j < a.length) (z:Av):(mkT k j a).set j z = mkAv k j++z :: a.drop (j + 1):=by
  unfold mkT
  rw [List.set_append_right _ _ (by simp),mkAv_len,Nat.sub_self]
  congr 1
  have:a.drop j = a[j] :: a.drop (j + 1):=List.drop_eq_getElem_cons h
  rw [this]; rfl
theorem mkT_step {k:Int} {j:Nat} {a:List Av} (h:j < a.length):((mkT k j a).set j ⟨k + 2 * ((j:Nat):Int),(a.getD j Av.zero).arg⟩).set j ⟨k + 2 * ((j:Nat):Int),k + 2 * ((j:Nat):Int) + 1⟩ = mkT k (j + 1) a:=by
  rw [List.set_set,mkT_set h]
  unfold mkT mkAv
  rw [tab_succ,List.append_assoc]; rfl
theorem av_gs {X:List Av} {j:Nat} {y:Av} (h:j < X.length):(X.set j y).getD j Av.zero = y:=by
  rw [List.getD_eq_getElem?_getD,List.getElem?_eq_getElem (by rw [List.length_set]; exact h),List.getElem_set_self]; rfl
theorem mkT_fin {k l:Int} {j:Nat} {a:List Av} {x:Int} (h:j < a.length) (hl:l = k + 2 * ((j:Nat):Int)) :
    ((mkT k j a).set j ⟨l,x⟩).set j ⟨(((mkT k j a).set j ⟨l,x⟩).getD j Av.zero).kind,l + 1⟩ = mkT k (j + 1) a:=by
  rw [av_gs (by rw [mkT_len (by omega)]; exact h),← mkT_step h,List.set_set,List.set_set,hl]
theorem mkAv_kind {k:Int} {n i:Nat} {a:List Av} (ha:a = mkAv k n) (h:i < n):(a.getD i Av.zero).kind = k + 2 * ((i:Nat):Int)∧(a.getD i Av.zero).arg = k + 2 * ((i:Nat):Int) + 1:=by
  rw [ha,mkAv_at h]; exact ⟨rfl,rfl⟩
section ops
variable {P:Program} {ops:Array Oper} {w0:World} {Q:Act→World→Prop} {os:List Oper} {ks:List Nat} {N:Nat} {ρ:Nat→Value} {w:World}
  {d:Nat} {ty:TypeId} {pos:String} {aft:Array Edge} {g:Option (Nat × Bool)} {t e:TypeId}
theorem e_avS {st:TypeId} {x y:Operand} {v:Value} {xs:List Av} {F:List Nat} {j c:Nat} {n:Int} (z':Av) (hst:(P.info? st).map (·.size) = some 1) (hx:evF N ρ x = padd (eptr v j 2) c) (hy:evF N ρ y = .int .i64 n) (hn:-9223372036854775808≤n∧n≤9223372036854775807)
    (hv:owS 2 rAv e w.heap v xs F) (hN:F.Nodup) (hj:j < xs.length) (hz:(c = 0∧z' = ⟨n,(xs.getD j Av.zero).arg⟩)∨(c = 1∧z' = ⟨(xs.getD j Av.zero).kind,n⟩)) (hu:Up ops N ρ ⟨none,.store st x y,ty,pos,aft,g⟩)
    (h:∀ w1,Chg F w w1→w1.heap.size = w.heap.size→owS 2 rAv e w1.heap v (xs.set j z') F→LW P ops w0 Q os ks (mk N ρ) w1) :
    LW P ops w0 Q (⟨none,.store st x y,ty,pos,aft,g⟩ :: os) (4 :: ks) (mk N ρ) w:=by
  have hg:xs.getD j Av.zero = xs[j]:=by rw [List.getD_eq_getElem?_getD,List.getElem?_eq_getElem hj,Option.getD_some]
  have h1:xs = xs.take j++xs[j] :: xs.drop (j + 1):=by rw [← List.drop_eq_getElem_cons hj,List.take_append_drop]
  have h2:xs.set j z' = xs.take j++z' :: xs.drop (j + 1):=List.set_eq_take_append_cons_drop .. |>.trans (by rw [if_pos hj])
  rw [h2] at h
  rw [hg] at hz
  rw [h1] at hv
  refine e_setCO (L:=xs.take j) (z:=xs[j]) (z':=z') (R:=xs.drop (j + 1)) (k:=j) (c:=c) good_rAv hst hx hy ⟨rfl,rfl⟩ hv hN (by rw [List.length_take]; omega) (by omega) (fun {H cs G} hE=>?_) hu h
  obtain ⟨rfl,hr,rfl⟩:=hE
  rcases hz with ⟨rfl,rfl⟩ | ⟨rfl,rfl⟩
  · exact ⟨rfl,⟨hn,hr.2⟩,rfl⟩
  · exact ⟨rfl,⟨hr.1,hn⟩,rfl⟩
end ops
theorem frN_avL {a:Av} {B U:Nat} {H:Array Obj} (h:avR a):FrN rAv B U H (avC a) a:=⟨[],⟨rfl,h,rfl⟩,List.nodup_nil,fun b hb=>by cases hb⟩
theorem FrP.ofF {α β:Type} {E:Array Obj→β→α→List Nat→Prop} {B U:Nat} {H:Array Obj} {v:β} {x:α} (h:∃ F,E H v x F∧F.Nodup∧∀ b∈F,B≤b∧b < U):FrP E (fun b=>B≤b∧b < U) H v x:=h
theorem FrP.bn {α:Type} {E:Stand α} (hE:Good E) {S:Nat→Prop} {w:World} {v:Value} {x:α} (h:FrP E S w.heap v x):FrP E (fun b=>S b∧b < w.heap.size) w.heap v x:=by
  obtain ⟨G,h1,h2,h3⟩:=h
  exact ⟨G,h1,h2,fun b hb=>⟨h3 b hb,hE.lt h1 b hb⟩⟩
theorem FrP.sub {α β:Type} {E:Array Obj→β→α→List Nat→Prop} {S T:Nat→Prop} {H:Array Obj} {v:β} {x:α} (h:FrP E S H v x) (hs:∀ b,S b→T b):FrP E T H v x:=by
  obtain ⟨F,h1,h2,h3⟩:=h
  exact ⟨F,h1,h2,fun b hb=>hs b (h3 b hb)⟩
section
variable {P:Program} {ops:Array Oper} {w0 w:World} {Q:Act→World→Prop} {os:List Oper} {ks:List Nat} {N:Nat} {ρ:Nat→Value} {d:Nat} {ty:TypeId} {pos:String} {aft:Array Edge} {g:Option (Nat × Bool)} {t e:TypeId} {z:Value} {b s:Nat} {α:Type} {E:StandN α}
theorem e_appPL (hE:GoodN s E) {x y:Operand} {v a:Value} {xs:List α} {y0:α} {S T:Nat→Prop} (ht:P.underlying t = some (.slice e)) (hi:TI P e s z b) (hz:z.cells.size = s) (hs:0 < s) (hx:evF N ρ x = v) (hy:evF N ρ y = a) (hv:FrP (owS s E e) S w.heap v xs)
    (ha:FrP (owS s E e) T w.heap a [y0]) (hT:∀ b,S b→T b→False) (hbytes:(xs.length + 1) * b≤140737488355328) (hmx:xs.length + 1≤maxLen) (hu:Up ops N ρ ⟨some d,.call ⟨.builtin .append,#[x,y],#[t,t]⟩,ty,pos,aft,g⟩)
    (h:∀ v1 w1 F,Chg F w w1→(∀ c∈F,S c)→FrP (owS s E e) (fun b=>S b∨T b∨b = w.heap.size) w1.heap v1 (xs++[y0])→LW P ops w0 Q os ks (mk N (upd ρ d v1)) w1) :
    LW P ops w0 Q (⟨some d,.call ⟨.builtin .append,#[x,y],#[t,t]⟩,ty,pos,aft,g⟩ :: os) (4 :: ks) (mk N ρ) w:=by
  obtain ⟨v1,w1,F,r1,r2,r3,r4⟩:=run_appQ (P:=P) (ty:=ty) hE ht hi hz hs (S:=S) (T:=T) hv ha hT hbytes hmx
  exact lw_e rfl hu v1 w1 (by simp only [execOp,resolve,invoke,builtin,List.map_toArray,List.map_cons,List.map_nil,Sem.run_bind,Sem.run_pure,Result.andThen_ok,hx,hy,r1]) (h v1 w1 F r3 r4 r2)
end
end Go.Proofs.YtlbefjfhfodnlaaDoor
namespace Go.Proofs.YtlbefjfhfodnlaaDoor
open Go Go.RowKit
set_option linter.unusedVariables false
set_option linter.unusedSimpArgs false
def ltr (k:Int):UInt8:=if k = 1 then 97 else if k = 2 then 115 else if k = 3 then 108 else 114
def wdL (a:Av):List UInt8:=ltr a.kind :: if a.kind = 4 then [] else Lib.decDigits a.arg.toNat
def scL (l:List Av):List UInt8:=if schB l = true then (if l = [] then [45] else jn (l.map wdL)) else []
section
variable {a:Av} {l:List Av}
theorem wd_mem (ha:avK a):(32:UInt8)∉wdL a:=by
  intro h
  unfold wdL at h
  rcases List.mem_cons.1 h with h | h
  · unfold ltr at h; repeat' split at h
    all_goals exact absurd h (by decide)
  · split at h
    · cases h
    · have:=dg_mem _ h
      exact absurd this.1 (by decide)
theorem wd_len (ha:avK a):1≤(wdL a).length∧(wdL a).length≤3:=by
  unfold wdL
  rw [List.length_cons]
  split
  · simp
  · have h:a.arg.toNat < 100:=by unfold avK at ha; omega
    have:=dg_len h; omega
theorem sch_get (h:schB l = true) {i:Nat} (hi:i < l.length):avK (l.getD i Av.zero):=(schB_iff.1 h).2 i hi
theorem sch_mem (h:schB l = true) (ha:a∈l):avK a:=by
  obtain ⟨i,hi,rfl⟩:=List.mem_iff_getElem.1 ha
  have:=sch_get h hi
  rwa [List.getD_eq_getElem?_getD,List.getElem?_eq_getElem hi,Option.getD_some] at this
theorem sc_ok (h:schB l = true) (hl:l≠[]):scL l = jn (l.map wdL):=by unfold scL; rw [if_pos h,if_neg hl]
theorem sc_len (h:schB l = true):(scL l).length≤1600:=by
  unfold scL
  rw [if_pos h]
  split
  · simp
  · have h1:=(schB_iff.1 h).1
    have:=jn_le (n:=3) (l.map wdL) fun w hw=>by
      obtain ⟨a,ha,rfl⟩:=List.mem_map.1 hw
      exact (wd_len (sch_mem h ha)).2
    rw [List.length_map] at this; omega
theorem sc_spl (h:schB l = true) (hl:l≠[]):spl (scL l) = l.map wdL:=by
  rw [sc_ok h hl]
  exact spl_jn _ (by simpa using hl) fun w hw=>by
    obtain ⟨a,ha,rfl⟩:=List.mem_map.1 hw
    exact wd_mem (sch_mem h ha)
def rdN (w:List UInt8):Int:=match Lib.parseIntB 64 w with
  | .ok v=>v
  | .syntax=>0
  | .range=>Lib.intSat 64 w
def rdA (w:List UInt8):Av:=if Lib.indexByte [97,115,108,114] (w.headD 0) + 1 = 4 then ⟨4,0⟩ else ⟨Lib.indexByte [97,115,108,114] (w.headD 0) + 1,rdN (w.drop 1)⟩
theorem rdA_cons (c:UInt8) (r:List UInt8):rdA (c :: r) = if Lib.indexByte [97,115,108,114] c + 1 = 4 then ⟨4,0⟩ else ⟨Lib.indexByte [97,115,108,114] c + 1,rdN r⟩:=rfl
theorem wdL_mk (k g:Int):wdL ⟨k,g⟩ = ltr k :: if k = 4 then [] else Lib.decDigits g.toNat:=rfl
theorem rd_wd (ha:avK a):rdA (wdL a) = a:=by
  obtain ⟨k,g⟩:=a
  have ha:(k = 1∧1≤g∧g≤40)∨((k = 2∨k = 3)∧0≤g∧g≤7)∨(k = 4∧g = 0):=ha
  rw [wdL_mk,rdA_cons]
  have hi:Lib.indexByte [97,115,108,114] (ltr k) + 1 = k:=by
    have hk:k = 1∨k = 2∨k = 3∨k = 4:=by omega
    rcases hk with rfl | rfl | rfl | rfl <;> decide
  rw [hi]
  by_cases h4:k = 4
  · rw [if_pos h4]
    have:g = 0:=by omega
    subst this; subst h4; rfl
  · rw [if_neg h4,if_neg h4]
    have:rdN (Lib.decDigits g.toNat) = g:=by
      unfold rdN
      rw [pi_dg (by omega)]
      dsimp only
      omega
    rw [this]
def rsL (t:List UInt8):List Av:=if t = [45] then [] else ((spl t).takeWhile fun w=>!w.isEmpty).map rdA
theorem rs_sc (h:schB l = true):rsL (scL l) = l:=by
  by_cases hl:l = []
  · subst hl
    have:scL [] = [45]:=by unfold scL; rw [if_pos h,if_pos rfl]
    unfold rsL
    rw [if_pos this]
  · unfold rsL
    rw [if_neg,sc_spl h hl]
    · have:∀ m:List Av,(∀ a∈m,avK a)→((m.map wdL).takeWhile fun w=>!w.isEmpty).map rdA = m:=by
        intro m
        induction m with
        | nil=>intro _; rfl
        | cons a m ih =>
          intro hm
          have ha:=hm a (by simp)
          have h1:=(wd_len ha).1
          rw [List.map_cons,List.takeWhile_cons_of_pos (by cases hw:wdL a with
            | nil=>rw [hw] at h1; simp at h1
            | cons=>rfl),List.map_cons,rd_wd ha,ih fun x hx=>hm x (List.mem_cons_of_mem _ hx)]
      exact this l fun a ha=>sch_mem h ha
    · intro e
      have h2:=sc_spl h hl
      rw [e] at h2
      cases l with
      | nil=>exact hl rfl
      | cons a l =>
        have h3:wdL a = [45]:=by
          have:=congrArg (fun z:List (List UInt8)=>z.headD []) h2
          simpa [spl] using this.symm
        unfold wdL at h3
        have h4:ltr a.kind = 45:=by injection h3
        unfold ltr at h4; repeat' split at h4
        all_goals exact absurd h4 (by decide)
def rsC (t:List UInt8):Int:=if scL (rsL t) = t then 0 else 5
def rsQ (t:List UInt8):List Av:=if rsC t = 0 then rsL t else []
theorem rs_iff {t:List UInt8}:rsC t = 0↔∃ l,schB l = true∧scL l = t:=by
  unfold rsC
  constructor
  · intro h
    by_cases e:scL (rsL t) = t
    · by_cases hs:schB (rsL t) = true
      · exact ⟨_,hs,e⟩
      · have:t = []:=by rw [← e]; unfold scL; rw [if_neg hs]
        subst this
        exact absurd e (by decide)
    · rw [if_neg e] at h; omega
  · rintro ⟨l,h1,h2⟩
    rw [← h2,rs_sc h1,if_pos rfl]
theorem rs_of {l:List Av} (h:schB l = true):rsC (scL l) = 0∧rsQ (scL l) = l:=by
  have h0:=rs_iff.2 ⟨l,h,rfl⟩
  refine ⟨h0,?_⟩
  unfold rsQ
  rw [if_pos h0,rs_sc h]
theorem rs_long {t:List UInt8} (h:1600 < t.length):rsC t = 5:=by
  unfold rsC
  rw [if_neg]
  intro e
  have h0:rsC t = 0:=by unfold rsC; rw [if_pos e]
  obtain ⟨l,h1,h2⟩:=rs_iff.1 h0
  have:=sc_len h1
  rw [h2] at this; omega
end
end Go.Proofs.YtlbefjfhfodnlaaDoor
namespace Go.Proofs.YtlbefjfhfodnlaaDoor
open Go Go.RowKit
set_option linter.unusedVariables false
set_option linter.unusedSimpArgs false
def ba (l:List UInt8):ByteArray:=⟨l.toArray⟩
theorem ba_data (l:List UInt8):(ba l).data.toList = l:=rfl
theorem ba_size (l:List UInt8):(ba l).size = l.length:=List.size_toArray ..
theorem ba_of (s:ByteArray):ba s.data.toList = s:=by
  unfold ba; rfl
theorem baA (a b:List UInt8):ba a++ba b = ba (a++b):=by
  have h:(ba a++ba b).data.toList = (ba (a++b)).data.toList:=by rw [ba_data,ByteArray.data_append]; simp [ba]
  rw [← ba_of (ba a++ba b),h,ba_of]
theorem ba_inj {a b:ByteArray} (h:a.data.toList = b.data.toList):a = b:=by rw [← ba_of a,h,ba_of]
theorem strE_iff (a b:ByteArray):strE a b = decide (a.data.toList = b.data.toList):=by
  unfold strE
  rw [Lib.toList_data,Lib.toList_data]
  by_cases h:a.data.toList = b.data.toList
  · rw [h]; simp
  · rw [decide_eq_false h]; simpa using h
theorem strE_t {a b:ByteArray} (h:strE a b = true):a.data.toList = b.data.toList:=by rw [strE_iff] at h; exact of_decide_eq_true h
theorem strE_f {a b:ByteArray} (h:strE a b = false):a.data.toList≠b.data.toList:=by rw [strE_iff] at h; exact of_decide_eq_false h
theorem sAt_get {s:ByteArray} {i:Nat} (h:i < s.size):sAt s i = (s.data.toList.getD i 0).toNat:=by
  unfold sAt
  have:s[i]? = some (s.data.toList.getD i 0):=by
    rw [getElem?_pos s i h,List.getD_eq_getElem?_getD,List.getElem?_eq_getElem (by simpa using h)]; rfl
  rw [this]; rfl
theorem sAt_head {s:ByteArray} (h:0 < s.size):(sAt s 0).toUInt8 = s.data.toList.headD 0:=by
  rw [sAt_get h]
  cases hs:s.data.toList with
  | nil=>rfl
  | cons a l=>simp
theorem ex_data (s:ByteArray) (a b:Nat):(s.extract a b).data.toList = (s.data.toList.take b).drop a:=by
  rw [ByteArray.data_extract]; simp [List.extract_eq_take_drop,List.drop_take]
theorem rdN_rng (w:List UInt8):-9223372036854775808≤rdN w∧rdN w≤9223372036854775807:=by
  unfold rdN
  cases h:Lib.parseIntB 64 w with
  | ok v =>
    dsimp only
    unfold Lib.parseIntB at h
    cases w with
    | nil=>cases h
    | cons c r =>
      dsimp only at h
      split at h
      · cases h
      · cases h
      · split at h
        · cases h
        · split at h
          · cases h
          · rename_i u _ h1 h2
            injection h with h; subst h
            split <;> simp_all <;> omega
  | «syntax»=>dsimp only; omega
  | range=>dsimp only; unfold Lib.intSat; split <;> omega
def pOk (l:List UInt8):Bool:=match Lib.parseIntB 64 l with
  | .ok _=>true
  | _=>false
def rdO (s:ByteArray) (low high:Int):Bool:=pOk s.data.toList && strE (ba (Lib.itoa (rdN s.data.toList))) s && (decide (low≤rdN s.data.toList) && decide (rdN s.data.toList≤high))
theorem rdO_1 {s:ByteArray} {low high:Int} (h:pOk s.data.toList = false):false = rdO s low high:=by unfold rdO; rw [h]; rfl
theorem rdO_2 {s:ByteArray} {low high:Int} (h:strE (ba (Lib.itoa (rdN s.data.toList))) s = false):false = rdO s low high:=by unfold rdO; rw [h,Bool.and_false]; rfl
theorem rdO_3 {s:ByteArray} {low high:Int} (h:pOk s.data.toList = true) (h2:strE (ba (Lib.itoa (rdN s.data.toList))) s = true):(decide (low≤rdN s.data.toList) && decide (rdN s.data.toList≤high)) = rdO s low high:=by unfold rdO; rw [h,h2]; rfl
def okD (l:List UInt8):Bool:=decide (l≠[]∧l.length≤9∧¬ (1 < l.length∧l.getD 0 0 = 48)) && l.all fun c=>decide (48≤c.toNat∧c.toNat≤57)
def vD (l:List UInt8):Nat:=l.foldl (fun a c=>10 * a + (c.toNat - 48)) 0
theorem vD_snoc (l:List UInt8) (c:UInt8):vD (l++[c]) = 10 * vD l + (c.toNat - 48):=by unfold vD; rw [List.foldl_append]; rfl
theorem vD_take {l:List UInt8} {i:Nat} (h:i < l.length):vD (l.take (i + 1)) = 10 * vD (l.take i) + ((l.getD i 0).toNat - 48):=by
  rw [List.take_add_one,List.getElem?_eq_getElem h,Option.toList_some,vD_snoc,List.getD_eq_getElem?_getD,List.getElem?_eq_getElem h]; rfl
theorem vD_lt:∀ (n:Nat) (l:List UInt8),l.length = n→(∀ c∈l,48≤c.toNat∧c.toNat≤57)→vD l < 10 ^ n:=by
  intro n
  induction n with
  | zero=>intro l h _; rw [List.length_eq_zero_iff.1 h]; decide
  | succ n ih =>
    intro l h ha
    have hne:l≠[]:=by intro e; subst e; simp at h
    obtain ⟨m,c,rfl⟩:∃ m c,l = m++[c]:=⟨_,_,(List.dropLast_concat_getLast hne).symm⟩
    have h1:=ih m (by simpa using h) fun x hc=>ha x (List.mem_append_left _ hc)
    have h2:=ha c (by simp)
    rw [vD_snoc,Nat.pow_succ]
    omega
theorem u8_nat {n:Nat} (h:n < 256):(UInt8.ofNat n).toNat = n:=UInt8.toNat_ofNat_of_lt' h
theorem vD_dg:∀ n:Nat,vD (Lib.decDigits n) = n:=by
  intro n
  induction n using Nat.strongRecOn with
  | _ n ih =>
    rw [Lib.decDigits]
    split
    · rename_i h
      unfold vD
      rw [List.foldl_cons,List.foldl_nil]
      rw [u8_nat (by omega)]; omega
    · rename_i h
      rw [vD_snoc,ih (n / 10) (by omega),u8_nat (by omega)]; omega
theorem dg_head:∀ n:Nat,1 < (Lib.decDigits n).length→(Lib.decDigits n).getD 0 0≠48:=by
  intro n
  induction n using Nat.strongRecOn with
  | _ n ih =>
    intro hl
    rw [Lib.decDigits] at hl ⊢
    split
    · rename_i h; rw [dif_pos h] at hl; simp at hl
    · rename_i h
      have h0:(Lib.decDigits (n / 10))≠[]:=dg_ne _
      have e:∀ x:UInt8,(Lib.decDigits (n / 10)++[x]).getD 0 0 = (Lib.decDigits (n / 10)).getD 0 0:=by
        intro x
        cases hd:Lib.decDigits (n / 10) with
        | nil=>exact absurd hd h0
        | cons=>rfl
      rw [e]
      by_cases h1:n / 10 < 10
      · rw [Lib.decDigits,dif_pos h1]
        intro he
        have h2:(UInt8.ofNat (48 + n / 10)).toNat = 48:=by
          have:(UInt8.ofNat (48 + n / 10)) = 48:=he
          rw [this]; rfl
        rw [u8_nat (by omega)] at h2; omega
      · refine ih (n / 10) (by omega) ?_
        rw [Lib.decDigits,dif_neg h1,List.length_append]
        have:=List.length_pos_iff.2 (dg_ne (n / 10 / 10))
        simp; omega
theorem dg_len9:∀ (k n:Nat),n < 10 ^ (k + 1)→(Lib.decDigits n).length≤k + 1:=by
  intro k
  induction k with
  | zero=>intro n h; rw [Lib.decDigits,dif_pos (by omega)]; simp
  | succ k ih =>
    intro n h
    rw [Lib.decDigits]
    split
    · simp
    · rw [List.length_append]
      have:=ih (n / 10) (by rw [Nat.pow_succ] at h; omega)
      simp; omega
theorem okD_dg {n:Nat} (h:n < 1000000000):okD (Lib.decDigits n) = true:=by
  unfold okD
  rw [Bool.and_eq_true]
  refine ⟨decide_eq_true ⟨dg_ne n,dg_len9 8 n (by simpa using h),fun h1=>dg_head n h1.1 h1.2⟩,?_⟩
  rw [List.all_eq_true]
  intro c hc
  exact decide_eq_true (dg_mem _ hc)
theorem okD_inv:∀ (n:Nat) (l:List UInt8),l.length = n→okD l = true→l = Lib.decDigits (vD l):=by
  intro n
  induction n with
  | zero=>intro l h ho; rw [List.length_eq_zero_iff.1 h] at ho; exact absurd ho (by decide)
  | succ n ih =>
    intro l h ho
    have hne:l≠[]:=by intro e; subst e; simp at h
    obtain ⟨m,c,rfl⟩:∃ m c,l = m++[c]:=⟨_,_,(List.dropLast_concat_getLast hne).symm⟩
    unfold okD at ho
    rw [Bool.and_eq_true,List.all_eq_true] at ho
    obtain ⟨h1,h2⟩:=ho
    obtain ⟨_,h3,h4⟩:=of_decide_eq_true h1
    have hc:=of_decide_eq_true (h2 c (by simp))
    have hm:m.length = n:=by simpa using h
    have e9:UInt8.ofNat (48 + (c.toNat - 48)) = c:=by
      rw [show 48 + (c.toNat - 48) = c.toNat from by omega]; simp
    by_cases h0:m = []
    · subst h0
      rw [List.nil_append,show vD [c] = c.toNat - 48 from by unfold vD; simp,Lib.decDigits,dif_pos (by omega),e9]
    · have hm0:m.getD 0 0≠48:=by
        intro e
        refine h4 ⟨by have:=List.length_pos_iff.2 h0; simp; omega,?_⟩
        cases m with
        | nil=>exact absurd rfl h0
        | cons=>exact e
      have hom:okD m = true:=by
        unfold okD
        rw [Bool.and_eq_true,List.all_eq_true]
        exact ⟨decide_eq_true ⟨h0,by simp at h3; omega,fun h=>hm0 h.2⟩,fun x hx=>h2 x (by simp [hx])⟩
      have e:=ih m hm hom
      have hv:1≤vD m:=by
        rcases Nat.eq_zero_or_pos (vD m) with h5 | h5
        · rw [h5,Lib.decDigits,dif_pos (by omega)] at e
          rw [e] at hm0
          exact absurd rfl hm0
        · exact h5
      rw [vD_snoc]
      conv=>rhs; rw [Lib.decDigits]
      rw [dif_neg (by omega),show (10 * vD m + (c.toNat - 48)) / 10 = vD m from by omega,show (10 * vD m + (c.toNat - 48)) % 10 = c.toNat - 48 from by omega,← e,e9]
def rdD (l:List UInt8):Int:=if okD l = true then (vD l:Int) else 0
theorem okD_len {l:List UInt8} (h:okD l = true):1≤l.length∧l.length≤9∧∀ c∈l,48≤c.toNat∧c.toNat≤57:=by
  unfold okD at h
  rw [Bool.and_eq_true,List.all_eq_true] at h
  obtain ⟨h1,h2⟩:=h
  obtain ⟨h3,h4,_⟩:=of_decide_eq_true h1
  exact ⟨List.length_pos_iff.2 h3,h4,fun c hc=>of_decide_eq_true (h2 c hc)⟩
theorem vD_okD {l:List UInt8} (h:okD l = true):vD l < 1000000000:=by
  obtain ⟨_,h1,h2⟩:=okD_len h
  have:=vD_lt l.length l rfl h2
  have h3:(10:Nat) ^ l.length≤10 ^ 9:=Nat.pow_le_pow_right (by decide) h1
  omega
theorem rdD_rng (l:List UInt8):-9223372036854775808≤rdD l∧rdD l≤9223372036854775807:=by
  unfold rdD
  split
  · rename_i h; have:=vD_okD h; omega
  · omega
theorem avB_k {a:Av} (h:avB a = true):avK a:=by
  by_cases hk:avK a
  · exact hk
  · rw [← avB_f hk] at h; cases h
def rwO (w:List UInt8):Bool:=avB (rdA w) && decide (wdL (rdA w) = w)
theorem rwO_wd {a:Av} (h:avK a):rwO (wdL a) = true:=by
  unfold rwO
  rw [rd_wd h,← avB_t h,decide_eq_true rfl]; rfl
theorem rwO_inv {w:List UInt8} (h:rwO w = true):∃ a,avK a∧wdL a = w∧rdA w = a:=by
  unfold rwO at h
  rw [Bool.and_eq_true] at h
  exact ⟨rdA w,by have:=h.1; exact avB_k this,of_decide_eq_true h.2,rfl⟩
theorem rw_r:rwO [114] = true∧rdA [114] = ⟨4,0⟩:=by decide
theorem rw_short {w:List UInt8} (h:w.length < 2) (hr:w≠[114]):rwO w = false:=by
  cases ho:rwO w with
  | false=>rfl
  | true =>
    obtain ⟨⟨k,g⟩,ha,hw,_⟩:=rwO_inv ho
    exfalso
    rw [wdL_mk] at hw
    by_cases h4:k = 4
    · subst h4; rw [if_pos rfl] at hw; exact hr hw.symm
    · rw [if_neg h4] at hw
      rw [← hw,List.length_cons] at h
      have:=List.length_pos_iff.2 (dg_ne g.toNat)
      omega
def kdC (c:UInt8):Int:=if c = 97 then 1 else if c = 115 then 2 else if c = 108 then 3 else 0
def kdK (c k:Nat):Int:=if 1 < k∧c = 97 then 1 else if 2 < k∧c = 115 then 2 else if 3 < k∧c = 108 then 3 else 0
theorem rw_long {c:UInt8} {r:List UInt8} (hr:r≠[]):rwO (c :: r) = (okD r && avB ⟨kdC c,(vD r:Nat)⟩)∧(rwO (c :: r) = true→rdA (c :: r) = ⟨kdC c,(vD r:Nat)⟩):=by
  have H1:okD r = true→avB ⟨kdC c,(vD r:Nat)⟩ = true→rwO (c :: r) = true∧rdA (c :: r) = ⟨kdC c,(vD r:Nat)⟩:=by
    intro h1 h2
    have hk:avK ⟨kdC c,(vD r:Nat)⟩:=avB_k h2
    have e:wdL ⟨kdC c,(vD r:Nat)⟩ = c :: r:=by
      rw [wdL_mk]
      have h4:kdC c≠4:=by unfold kdC; split; decide; split; decide; split <;> decide
      rw [if_neg h4,Int.toNat_natCast,← okD_inv _ r rfl h1]
      congr 1
      have h0:1≤kdC c:=by unfold avK at hk; dsimp only at hk; omega
      unfold kdC at h0 ⊢
      split
      · rename_i h; rw [h]; rfl
      · split
        · rename_i h; rw [h]; rfl
        · split
          · rename_i h; rw [h]; rfl
          · rename_i a b d; rw [if_neg a,if_neg b,if_neg d] at h0; omega
    rw [← e]
    exact ⟨rwO_wd hk,rd_wd hk⟩
  have H2:rwO (c :: r) = true→okD r = true∧avB ⟨kdC c,(vD r:Nat)⟩ = true:=by
    intro ho
    obtain ⟨⟨k,g⟩,ha,hw,_⟩:=rwO_inv ho
    rw [wdL_mk] at hw
    by_cases h4:k = 4
    · rw [if_pos h4] at hw; injection hw with _ h5; exact absurd h5.symm hr
    · rw [if_neg h4] at hw
      injection hw with h5 h6
      have ha':=ha
      unfold avK at ha; dsimp only at ha
      rw [← h6,vD_dg]
      refine ⟨okD_dg (by omega),?_⟩
      have:kdC c = k:=by
        rw [← h5]
        have hk:k = 1∨k = 2∨k = 3:=by omega
        rcases hk with rfl | rfl | rfl <;> decide
      rw [this,show ((g.toNat:Nat):Int) = g from by omega]
      exact (avB_t ha').symm
  refine ⟨?_,fun ho=>(H1 (H2 ho).1 (H2 ho).2).2⟩
  cases ho:rwO (c :: r) with
  | true=>rw [(H2 ho).1,(H2 ho).2]; rfl
  | false =>
    cases h1:okD r with
    | false=>rfl
    | true =>
      cases h2:avB ⟨kdC c,(vD r:Nat)⟩ with
      | false=>rfl
      | true=>rw [(H1 h1 h2).1] at ho; cases ho
def rdB (s:ByteArray):Av:=rdA s.data.toList
theorem spl_at {t:ByteArray} {i:Nat} (h:i < (wds t).length):((wds t).getD i ByteArray.empty).data.toList = (spl t.data.toList).getD i []:=by
  rw [← wds_map,List.getD_eq_getElem?_getD,List.getD_eq_getElem?_getD,List.getElem?_map,List.getElem?_eq_getElem h]; rfl
theorem rs_split {t:ByteArray} (h:t.data.toList≠[45]) (h0:rsC t.data.toList = 0):∃ l:List Av,schB l = true∧scL l = t.data.toList∧spl t.data.toList = l.map wdL∧(wds t).length = l.length:=by
  obtain ⟨l,h1,h2⟩:=rs_iff.1 h0
  have hl:l≠[]:=by
    intro e
    subst e
    refine h (h2.symm.trans ?_)
    unfold scL; rw [if_pos h1,if_pos rfl]
  have h3:spl t.data.toList = l.map wdL:=by rw [← h2]; exact sc_spl h1 hl
  exact ⟨l,h1,h2,h3,by rw [(wds_len t).2,h3,List.length_map]⟩
theorem rs_bad {t:ByteArray} {i:Nat} (h:t.data.toList≠[45]) (hi:i < (wds t).length) (hb:rwO ((wds t).getD i ByteArray.empty).data.toList = false):rsC t.data.toList = 5:=by
  by_cases h0:rsC t.data.toList = 0
  · exfalso
    obtain ⟨l,h1,h2,h3,h4⟩:=rs_split h h0
    rw [spl_at hi,h3,List.getD_eq_getElem?_getD,List.getElem?_map,List.getElem?_eq_getElem (by omega)] at hb
    have h5:=sch_get h1 (i:=i) (by omega)
    rw [List.getD_eq_getElem?_getD,List.getElem?_eq_getElem (by omega),Option.getD_some] at h5
    rw [Option.map_some,Option.getD_some,rwO_wd h5] at hb
    cases hb
  · unfold rsC at h0 ⊢
    split
    · rename_i h; rw [if_pos h] at h0; exact absurd rfl h0
    · rfl
theorem rs_many {t:ByteArray} (h:t.data.toList≠[45]) (hi:400 < (wds t).length):rsC t.data.toList = 5:=by
  by_cases h0:rsC t.data.toList = 0
  · exfalso
    obtain ⟨l,h1,h2,h3,h4⟩:=rs_split h h0
    have:=(schB_iff.1 h1).1
    omega
  · unfold rsC at h0 ⊢
    split
    · rename_i h; rw [if_pos h] at h0; exact absurd rfl h0
    · rfl
theorem tw_take {α:Type} (p:α→Bool) (d:α):∀ (l:List α) (i:Nat),(∀ j,j < i→p (l.getD j d) = true)→i≤l.length→(i = l.length∨p (l.getD i d) = false)→l.takeWhile p = l.take i:=by
  intro l
  induction l with
  | nil=>intro i _ h2 _; simp
  | cons a l ih =>
    intro i h1 h2 h3
    cases i with
    | zero =>
      rcases h3 with h3 | h3
      · simp at h3
      · have h0:¬ p a = true:=by have h4:p a = false:=h3; rw [h4]; decide
        rw [List.takeWhile_cons_of_neg h0,List.take_zero]
    | succ i =>
      have h0:p a = true:=h1 0 (by omega)
      rw [List.takeWhile_cons_of_pos h0,List.take_succ_cons,ih i (fun j hj=>h1 (j + 1) (by omega)) (by simpa using h2) (by simpa using h3)]
theorem rs_read {t:ByteArray} {i:Nat} (h:t.data.toList≠[45]) (hi:i≤(wds t).length) (hw:∀ j,j < i→((wds t).getD j ByteArray.empty).data.toList≠[]) (he:i = (wds t).length∨((wds t).getD i ByteArray.empty).data.toList = []) :
    rsL t.data.toList = ((wds t).take i).map rdB:=by
  have hl:=(wds_len t).2
  unfold rsL
  have hA:∀ j,j < i→(!((spl t.data.toList).getD j []).isEmpty) = true:=?_
  have hB:i = (spl t.data.toList).length∨(!((spl t.data.toList).getD i []).isEmpty) = false:=?_
  · rw [if_neg h,tw_take (fun w=>!w.isEmpty) [] (spl t.data.toList) i hA (by omega) hB,← wds_map,← List.map_take,List.map_map]
    rfl
  · rcases he with he | he
    · exact .inl (by omega)
    · by_cases h9:i = (wds t).length
      · exact .inl (by omega)
      · rw [spl_at (by omega)] at he
        exact .inr (by rw [he]; rfl)
  · intro j hj
    have:=hw j hj
    rw [spl_at (by omega)] at this
    cases hs:(spl t.data.toList).getD j [] with
    | nil=>exact absurd hs this
    | cons=>rfl
theorem rs_dash {t:ByteArray} (h:t.data.toList = [45]):rsL t.data.toList = []∧rsC t.data.toList = 0∧rsQ t.data.toList = []:=by
  rw [h]; decide
theorem rw_ne {w:List UInt8} (h:rwO w = true):w≠[]:=by intro e; subst e; exact absurd h (by decide)
theorem tk_map {α β:Type} {f:α→β} {l:List α} {i:Nat} {d:α} (h:i < l.length):(l.take (i + 1)).map f = (l.take i).map f++[f (l.getD i d)]:=by
  rw [List.take_add_one,List.getElem?_eq_getElem h,Option.toList_some,List.map_append,List.getD_eq_getElem?_getD,List.getElem?_eq_getElem h]; rfl
theorem rsC_0 {t:List UInt8} {m:List Av} (h:rsL t = m) (e:scL m = t):rsC t = 0∧rsQ t = m:=by
  have h0:rsC t = 0:=by unfold rsC; rw [h,if_pos e]
  exact ⟨h0,by unfold rsQ; rw [if_pos h0,h]⟩
theorem rsC_5 {t:List UInt8} {m:List Av} (h:rsL t = m) (e:scL m≠t):rsC t = 5∧rsQ t = []:=by
  have h0:rsC t = 5:=by unfold rsC; rw [h,if_neg e]
  exact ⟨h0,by unfold rsQ; rw [h0,if_neg (by decide)]⟩
theorem rsR_5 {t:List UInt8} (h:rsC t = 5):rsQ t = []:=by unfold rsQ; rw [h,if_neg (by decide)]
theorem ret_pair {v:Value} {a b:Bool} (h:a = b):Ending.returned (.tuple #[v,.bool a]) = .returned (.tuple #[v,.bool b]):=by rw [h]
theorem ret_str {a b:ByteArray} (h:a = b):Ending.returned (.string a) = .returned (.string b):=by rw [h]
theorem sc_bad {l:List Av} (h:(!schB l) = true):(⟨#[]⟩:ByteArray) = ba (scL l):=by
  unfold scL
  rw [if_neg (by intro e; rw [e] at h; cases h)]; rfl
theorem sch_b {l:List Av} (h:(!schB l) = false):schB l = true:=by cases e:schB l; rw [e] at h; cases h; rfl
theorem sc_nil {l:List Av} (h:(!schB l) = false) (h0:l.length = 0):(⟨#[45]⟩:ByteArray) = ba (scL l):=by
  unfold scL
  rw [if_pos (sch_b h),if_pos (List.length_eq_zero_iff.1 h0)]; rfl
def wdB (a:Av):ByteArray:=ba (wdL a)
theorem wdB_size {a:Av} (ha:avK a):(wdB a).size≤3:=by unfold wdB; rw [ba_size]; exact (wd_len ha).2
theorem wdB_4 {a:Av} (h:a.kind = 4):ba [ltr a.kind] = wdB a:=by unfold wdB wdL; rw [if_pos h]
theorem wdB_d {a:Av} (h:¬ a.kind = 4):ba [ltr a.kind]++decB a.arg.toNat = wdB a:=by unfold wdB wdL; rw [if_neg h]; exact baA _ _
theorem wdB_n {a:Av} (ha:avK a) (h:¬ a.kind = 4):ba [ltr a.kind]++ba (Lib.itoa a.arg) = wdB a:=by
  rw [← wdB_d h]
  unfold Lib.itoa
  rw [if_neg (by unfold avK at ha; omega)]; rfl
theorem ltr_s {a:Av} (ha:avK a):(⟨#[97,115,108,114]⟩:ByteArray).extract (a.kind - 1).toNat a.kind.toNat = ba [ltr a.kind]:=by
  apply ba_inj
  rw [ex_data,ba_data]
  have hk:a.kind = 1∨a.kind = 2∨a.kind = 3∨a.kind = 4:=by unfold avK at ha; omega
  rcases hk with h | h | h | h <;> rw [h] <;> decide
theorem ltr_q {a:Av} (ha:avK a):(⟨#[63,97,115,108,114]⟩:ByteArray).extract a.kind.toNat (a.kind + 1).toNat = ba [ltr a.kind]:=by
  apply ba_inj
  rw [ex_data,ba_data]
  have hk:a.kind = 1∨a.kind = 2∨a.kind = 3∨a.kind = 4:=by unfold avK at ha; omega
  rcases hk with h | h | h | h <;> rw [h] <;> decide
theorem map_wdB (l:List Av):(l.map wdB).map (·.data.toList) = l.map wdL:=by rw [List.map_map]; rfl
theorem jw_len {l:List Av} (h:schB l = true):(jn (l.map wdL)).length≤1600:=by
  have h1:=(schB_iff.1 h).1
  have:=jn_le (n:=3) (l.map wdL) fun w hw=>by
    obtain ⟨a,ha,rfl⟩:=List.mem_map.1 hw
    exact (wd_len (sch_mem h ha)).2
  rw [List.length_map] at this; omega
theorem sc_j {l:List Av} {k:Nat} (h:(!schB l) = false) (hk:l.length≤k):(jn (((l.take k).map wdB).map (·.data.toList))).length≤1600:=by
  rw [List.take_of_length_le hk,map_wdB]; exact jw_len (sch_b h)
theorem sc_end {l:List Av} {k:Nat} (h:(!schB l) = false) (h0:¬ l.length = 0) (hk:l.length≤k):ba (jn (((l.take k).map wdB).map (·.data.toList))) = ba (scL l):=by
  rw [List.take_of_length_le hk,map_wdB,sc_ok (sch_b h) (by intro e; subst e; exact h0 rfl)]
theorem sch_pre {l:List Av} (h:schB l = true) (i:Nat):schB (l.take i) = true :=
  schB_iff.2 ⟨by have:=(schB_iff.1 h).1; rw [List.length_take]; omega,fun j hj=>by
    rw [List.length_take] at hj
    have:=sch_get h (i:=j) (by omega)
    rwa [List.getD_eq_getElem?_getD,List.getElem?_take,if_pos (by omega),← List.getD_eq_getElem?_getD]⟩
theorem jT_len {l:List Av} {i:Nat} {o:ByteArray} (h:(!schB l) = false) (ho:o = ba (jn ((l.take i).map wdL))):o.size≤1600:=by
  rw [ho,ba_size]; exact jw_len (sch_pre (sch_b h) i)
theorem jT_0 {l:List Av} {i:Nat} {o:ByteArray} (hi:i < l.length) (h0:¬ 0 < i) (ho:o = ba (jn ((l.take i).map wdL))):o++wdB (l.getD i Av.zero) = ba (jn ((l.take (i + 1)).map wdL)):=by
  have:i = 0:=by omega
  subst this
  rw [ho,tk_map (d:=Av.zero) hi,jn_snoc,if_pos (by simp)]
  unfold wdB; rw [baA]; rfl
theorem jT_s {l:List Av} {i:Nat} {o:ByteArray} (hi:i < l.length) (h0:0 < i) (ho:o = ba (jn ((l.take i).map wdL))):(o++⟨#[32]⟩)++wdB (l.getD i Av.zero) = ba (jn ((l.take (i + 1)).map wdL)):=by
  rw [ho,tk_map (d:=Av.zero) hi,jn_snoc,if_neg (by intro e; have:=congrArg List.length e; simp only [List.length_map,List.length_take,List.length_nil] at this; omega)]
  unfold wdB
  rw [show (⟨#[32]⟩:ByteArray) = ba [32] from rfl,baA,baA,List.append_assoc]; rfl
theorem jT_e {l:List Av} {i:Nat} {o:ByteArray} (h:(!schB l) = false) (h0:¬ l.length = 0) (hi:l.length≤i) (ho:o = ba (jn ((l.take i).map wdL))):o = ba (scL l):=by
  rw [ho,List.take_of_length_le hi,sc_ok (sch_b h) (by intro e; subst e; exact h0 rfl)]
section rd
variable {s:ByteArray} {i n:Nat}
theorem sz_len (s:ByteArray):s.data.toList.length = s.size:=rfl
theorem rd_no {l:List UInt8} (h:okD l = false):Ending.returned (.tuple #[.int .i64 0,.bool false]) = .returned (.tuple #[.int .i64 (rdD l),.bool (okD l)]):=by unfold rdD; rw [h]; rfl
theorem okD_0 (h:s.size = 0):okD s.data.toList = false:=by
  cases e:okD s.data.toList with
  | false=>rfl
  | true=>have:=okD_len e; rw [sz_len] at this; omega
theorem okD_9 (h:9 < s.size):okD s.data.toList = false:=by
  cases e:okD s.data.toList with
  | false=>rfl
  | true=>have:=okD_len e; rw [sz_len] at this; omega
theorem okD_z (h:1 < s.size) (h2:sAt s 0 = 48):okD s.data.toList = false:=by
  cases e:okD s.data.toList with
  | false=>rfl
  | true =>
    unfold okD at e
    rw [Bool.and_eq_true] at e
    exfalso
    refine (of_decide_eq_true e.1).2.2 ⟨h,?_⟩
    rw [sAt_get (by omega)] at h2
    exact UInt8.toNat_inj.1 h2
theorem at_mem (h:i < s.size):s.data.toList.getD i 0∈s.data.toList:=by
  rw [List.getD_eq_getElem?_getD,List.getElem?_eq_getElem (by simpa using h)]; exact List.getElem_mem _
theorem okD_c (h:i < s.size) (h2:sAt s i < 48∨57 < sAt s i):okD s.data.toList = false:=by
  cases e:okD s.data.toList with
  | false=>rfl
  | true =>
    have:=(okD_len e).2.2 _ (at_mem h)
    rw [sAt_get h] at h2; omega
theorem vD_tk (hi:i≤s.size) (h9:s.size≤9) (hd:∀ j,j < i→48≤sAt s j∧sAt s j≤57) (hn:n = vD (s.data.toList.take i)):n < 1000000000:=by
  rw [hn]
  have hl:(s.data.toList.take i).length = i:=by rw [List.length_take,sz_len]; omega
  have:=vD_lt i _ hl fun c hc=>by
    obtain ⟨j,hj,rfl⟩:=List.mem_iff_getElem.1 hc
    rw [hl] at hj
    have:=hd j hj
    rw [sAt_get (by omega),List.getD_eq_getElem?_getD,List.getElem?_eq_getElem (by rw [sz_len]; omega),Option.getD_some] at this
    simpa using this
  have h3:(10:Nat) ^ i≤10 ^ 9:=Nat.pow_le_pow_right (by decide) (by omega)
  omega
theorem vD_st (hi:i < s.size) (hn:n = vD (s.data.toList.take i)):10 * n + (sAt s i - 48) = vD (s.data.toList.take (i + 1)):=by
  rw [vD_take (by rw [sz_len]; exact hi),← hn,sAt_get hi]
theorem okD_y (h0:¬ s.size = 0) (h9:s.size≤9) (hz:¬ (1 < s.size∧sAt s 0 = 48)) (hi:i = s.size) (hd:∀ j,j < i→48≤sAt s j∧sAt s j≤57) (hn:n = vD (s.data.toList.take i)) :
    Ending.returned (.tuple #[.int .i64 ((n:Nat):Int),.bool true]) = .returned (.tuple #[.int .i64 (rdD s.data.toList),.bool (okD s.data.toList)]):=by
  subst hi
  have ho:okD s.data.toList = true:=by
    unfold okD
    rw [Bool.and_eq_true,List.all_eq_true]
    refine ⟨decide_eq_true ⟨fun e=>h0 (by rw [← sz_len,e]; rfl),h9,fun h=>hz ⟨h.1,?_⟩⟩,fun c hc=>decide_eq_true ?_⟩
    · rw [sAt_get (by omega),h.2]; rfl
    · obtain ⟨j,hj,rfl⟩:=List.mem_iff_getElem.1 hc
      have:=hd j hj
      rw [sAt_get hj,List.getD_eq_getElem?_getD,List.getElem?_eq_getElem hj,Option.getD_some] at this
      exact this
  unfold rdD
  rw [if_pos ho,ho,hn,List.take_of_length_le (by rw [sz_len]; omega)]
theorem u8_sub {n:Nat} (h:48≤n) (h2:n < 256):IntKind.u8.wrap (((n:Nat):Int) - ((48:Nat):Int)) = ((n - 48:Nat):Int):=by
  have e:((n:Nat):Int) - ((48:Nat):Int) = ((n - 48:Nat):Int):=by omega
  rw [e]
  unfold IntKind.wrap IntKind.signed IntKind.bits
  simp; omega
end rd
theorem rng_03 {x:Int} (h:0≤x∧x≤3):-9223372036854775808≤x∧x≤9223372036854775807:=by omega
theorem kdK_t {c k:Nat} (h1:1≤k) (h3:k < 4) (h:c = sAt ⟨#[63,97,115,108,114]⟩ k):((k:Nat):Int) = kdK c (k + 1):=by
  have hk:k = 1∨k = 2∨k = 3:=by omega
  rcases hk with rfl | rfl | rfl
  · rw [show c = 97 from h]; decide
  · rw [show c = 115 from h]; decide
  · rw [show c = 108 from h]; decide
theorem kdK_f {c k:Nat} (h1:1≤k) (h3:k < 4) (h:¬ c = sAt ⟨#[63,97,115,108,114]⟩ k):kdK c k = kdK c (k + 1):=by
  have hk:k = 1∨k = 2∨k = 3:=by omega
  rcases hk with rfl | rfl | rfl
  · have h9:¬ c = 97:=h
    unfold kdK; simp [h9]
  · have h9:¬ c = 115:=h
    unfold kdK; simp [h9]
  · have h9:¬ c = 108:=h
    unfold kdK; simp [h9]
theorem kdK_c (c:UInt8):kdK c.toNat 4 = kdC c:=by
  unfold kdK kdC
  have e:∀ x:UInt8,(c.toNat = x.toNat) = (c = x):=fun x=>propext UInt8.toNat_inj
  have e1:=e 97
  have e2:=e 115
  have e3:=e 108
  simp only [show (97:UInt8).toNat = 97 from rfl] at e1
  simp only [show (115:UInt8).toNat = 115 from rfl] at e2
  simp only [show (108:UInt8).toNat = 108 from rfl] at e3
  simp [e1,e2,e3]
section wd
variable {s:ByteArray} {kq:Int} {k:Nat} {w w':World} {a:Av} {b:Bool}
theorem rw_ret (hE:Ext w w') (hr:i64 a.kind∧i64 a.arg) (hb:b = rwO s.data.toList) (hx:b = true→a = rdB s) :
    ∃ a':Av,Ending.returned (.tuple #[.agg #[.int .i64 a.kind,.int .i64 a.arg],.bool b]) = .returned (.tuple #[.agg #[.int .i64 a'.kind,.int .i64 a'.arg],.bool (rwO s.data.toList)])∧Ext w w'∧(i64 a'.kind∧i64 a'.arg)∧(rwO s.data.toList = true→a' = rdB s) :=
  ⟨a,by rw [hb],hE,hr,fun h=>hx (hb.trans h)⟩
theorem rw_1 (h:strE s ⟨#[114]⟩ = true):true = rwO s.data.toList∧(⟨4,0⟩:Av) = rdB s:=by
  have:=strE_t h
  unfold rdB
  rw [this]; exact ⟨rw_r.1.symm,rw_r.2.symm⟩
theorem rw_2 (h:strE s ⟨#[114]⟩ = false) (h2:s.size < 2):false = rwO s.data.toList:=(rw_short h2 (strE_f h)).symm
theorem sz_split (h:¬ s.size < 2):s.data.toList = s.data.toList.headD 0 :: (s.extract 1 s.size).data.toList∧(s.extract 1 s.size).data.toList≠[]:=by
  rw [ex_data,← sz_len,List.take_length]
  have hl:=sz_len s
  cases hs:s.data.toList with
  | nil=>rw [hs] at hl; simp at hl; omega
  | cons c r =>
    rw [hs] at hl
    refine ⟨rfl,fun e=>?_⟩
    have:r = []:=e
    rw [this] at hl; simp at hl; omega
theorem rw_3f (h2:¬ s.size < 2) (h:okD (s.extract 1 s.size).data.toList = false):false = rwO s.data.toList:=by
  obtain ⟨h3,h4⟩:=sz_split h2
  rw [h3,(rw_long h4).1,h]; rfl
theorem rw_3t (h2:¬ s.size < 2) (h:okD (s.extract 1 s.size).data.toList = true) (hk:kq = kdK (sAt s 0) k) (h4:k = 4) :
    avB ⟨kq,rdD (s.extract 1 s.size).data.toList⟩ = rwO s.data.toList∧(avB ⟨kq,rdD (s.extract 1 s.size).data.toList⟩ = true→(⟨kq,rdD (s.extract 1 s.size).data.toList⟩:Av) = rdB s):=by
  obtain ⟨h3,h5⟩:=sz_split h2
  have e:kq = kdC (s.data.toList.headD 0):=by
    rw [hk,h4,sAt_get (by omega),kdK_c]
    cases s.data.toList <;> rfl
  have e2:rdD (s.extract 1 s.size).data.toList = (vD (s.extract 1 s.size).data.toList:Nat):=by unfold rdD; rw [if_pos h]
  have hA:=rw_long (c:=s.data.toList.headD 0) h5
  rw [← h3,h,Bool.true_and,← e,← e2] at hA
  exact ⟨hA.1.symm,fun h6=>(hA.2 (hA.1.trans h6)).symm⟩
end wd
theorem nb {b:Bool} (h:(!b) = false):b = true:=by simpa using h
theorem nbT {b:Bool} (h:(!b) = true):b = false:=by simpa using h
section sp
variable {s:ByteArray} {o:List ByteArray} {f i k:Nat} {m:List Av}
theorem rsQ_len (t:List UInt8):(rsQ t).length≤400:=by
  by_cases h:rsC t = 0
  · obtain ⟨l,h1,h2⟩:=rs_iff.1 h
    have:=(rs_of h1).2
    rw [h2] at this
    rw [this]; exact (schB_iff.1 h1).1
  · unfold rsQ; rw [if_neg h]; simp
theorem strE_d (h:strE s ⟨#[45]⟩ = false):s.data.toList≠[45]:=strE_f h
theorem sp_start:(([]:List ByteArray).map (·.data.toList))++spl (s.data.toList.drop 0) = spl s.data.toList:=by simp
theorem part_no (hf:f≤i) (hi:i≤s.size) (h:∀ j,f≤j→j < i→sAt s j≠32):(32:UInt8)∉(s.extract f i).data.toList:=by
  intro hm
  rw [ex_data] at hm
  obtain ⟨j,hj,he⟩:=List.mem_iff_getElem.1 hm
  rw [List.length_drop,List.length_take,sz_len] at hj
  rw [List.getElem_drop,List.getElem_take] at he
  refine h (f + j) (by omega) (by omega) ?_
  rw [sAt_get (by omega),List.getD_eq_getElem?_getD,List.getElem?_eq_getElem (by rw [sz_len]; omega),Option.getD_some,he]; rfl
theorem sp_step (hA:o.map (·.data.toList)++spl (s.data.toList.drop f) = spl s.data.toList) (hf:f≤i) (hi:i < s.size) (h:∀ j,f≤j→j < i→sAt s j≠32) (h2:sAt s i = 32) :
    (o++[s.extract f i]).map (·.data.toList)++spl (s.data.toList.drop (i + 1)) = spl s.data.toList:=by
  have hp:=part_no hf (by omega) h
  rw [← hA,List.map_append,List.append_assoc]
  congr 1
  have e:s.data.toList.drop f = (s.extract f i).data.toList++32 :: s.data.toList.drop (i + 1):=by
    rw [ex_data]
    have e1:s.data.toList[i]'(by rw [sz_len]; exact hi) = 32:=by
      rw [sAt_get hi,List.getD_eq_getElem?_getD,List.getElem?_eq_getElem (by rw [sz_len]; exact hi),Option.getD_some] at h2
      exact UInt8.toNat_inj.1 h2
    rw [← e1,← List.drop_eq_getElem_cons]
    have e2:s.data.toList.drop f = (s.data.toList.drop f).take (i - f)++(s.data.toList.drop f).drop (i - f):=(List.take_append_drop _ _).symm
    rw [List.drop_drop,show f + (i - f) = i from by omega] at e2
    rw [List.drop_take]; exact e2
  rw [e,spl_app _ hp]; rfl
theorem map_inj:∀ {a b:List ByteArray},a.map (·.data.toList) = b.map (·.data.toList)→a = b
  | [],[],_=>rfl
  | [],_ :: _,h=>by simp at h
  | _ :: _,[],h=>by simp at h
  | x :: a,y :: b,h=>by
    rw [List.map_cons,List.map_cons] at h
    injection h with h1 h2
    rw [ba_inj h1,map_inj h2]
theorem sp_end (hA:o.map (·.data.toList)++spl (s.data.toList.drop f) = spl s.data.toList) (hf:f≤i) (hi:i = s.size) (h:∀ j,f≤j→j < i→sAt s j≠32):o++[s.extract f s.size] = wds s:=by
  have hp:=part_no hf (by omega) h
  apply map_inj
  rw [wds_map,← hA,List.map_append]
  congr 1
  have e:s.data.toList.drop f = (s.extract f i).data.toList:=by rw [ex_data,hi,← sz_len,List.take_length]
  rw [e,spl_end hp,hi]; rfl
theorem wds_le (s:ByteArray):(wds s).length≤s.size + 1:=by
  rw [(wds_len s).2,← sz_len]; exact spl_length _
theorem tkm_len {α β:Type} {g:α→β} {l:List α} (h:i≤l.length):((l.take i).map g).length = i:=by rw [List.length_map,List.length_take]; omega
variable {E:Stand (List Av)} {B U:Nat} {H:Array Obj} {v:Value} {c:Int} {w w':World} {L:List UInt8}
theorem rs_ret (hE:Ext w w') (hF:Fr E B U H v m) (h:c = rsC L∧m = rsQ L):∃ v',Ending.returned (.tuple #[v,.int .i64 c]) = .returned (.tuple #[v',.int .i64 (rsC L)])∧Ext w w'∧Fr E B U H v' (rsQ L):=by
  obtain ⟨h1,h2⟩:=h
  subst h1 h2; exact ⟨v,rfl,hE,hF⟩
theorem rs_0 (h:strE s ⟨#[45]⟩ = true):(0:Int) = rsC s.data.toList∧([]:List Av) = rsQ s.data.toList:=⟨(rs_dash (strE_t h)).2.1.symm,(rs_dash (strE_t h)).2.2.symm⟩
theorem rs_5 (h:rsC L = 5):((5:Nat):Int) = rsC L∧([]:List Av) = rsQ L:=⟨h.symm,(rsR_5 h).symm⟩
theorem rs_f0 (hL:rsL s.data.toList = m) (h:(!strE (ba (scL m)) s) = false):(0:Int) = rsC s.data.toList∧m = rsQ s.data.toList:=by
  have h1:strE (ba (scL m)) s = true:=by simpa using h
  have h2:=rsC_0 hL (strE_t h1)
  exact ⟨h2.1.symm,h2.2.symm⟩
theorem rs_f5 (hL:rsL s.data.toList = m) (h:(!strE (ba (scL m)) s) = true):((5:Nat):Int) = rsC s.data.toList∧([]:List Av) = rsQ s.data.toList:=by
  have h1:strE (ba (scL m)) s = false:=by simpa using h
  have h2:=rsC_5 hL (strE_f h1)
  exact ⟨h2.1.symm,h2.2.symm⟩
theorem rs_all (h:strE s ⟨#[45]⟩ = false) (hi:i = (wds s).length) (hd:∀ j,j < i→rwO ((wds s).getD j ByteArray.empty).data.toList = true):rsL s.data.toList = ((wds s).take i).map rdB :=
  rs_read (strE_f h) (by omega) (fun j hj=>rw_ne (hd j hj)) (.inl hi)
theorem sz_pos (h:strE s ⟨#[]⟩ = false):0 < s.size:=by
  rcases Nat.eq_zero_or_pos s.size with h1 | h1
  · exact absurd (List.length_eq_zero_iff.1 (sz_len s ▸ h1)) (strE_f h)
  · exact h1
theorem rs_stop (hi:i≤(wds s).length) (hw:∀ j,j < i→((wds s).getD j ByteArray.empty).data.toList≠[]) (hn:0 < i→s.data.toList≠[45])
    (he:i = (wds s).length∨strE ((wds s).getD i ByteArray.empty) ⟨#[]⟩ = true∨strE s ⟨#[45]⟩ = true):rsL s.data.toList = ((wds s).take i).map rdB:=by
  by_cases h:s.data.toList = [45]
  · have h0:i = 0:=by
      rcases Nat.eq_zero_or_pos i with h1 | h1
      · exact h1
      · exact absurd h (hn h1)
    rw [h0,(rs_dash h).1]; rfl
  · refine rs_read h hi hw ?_
    rcases he with he | he | he
    · exact .inl he
    · exact .inr (strE_t he)
    · exact absurd (strE_t he) h
def ixL (s:ByteArray):Int:=Lib.indexByte (⟨#[97,115,108,114]⟩:ByteArray).data.toList (sAt s 0).toUInt8
theorem ixL_rng (s:ByteArray):-1≤ixL s∧ixL s≤3:=by
  rcases idx_spec (sAt s 0).toUInt8 (⟨#[97,115,108,114]⟩:ByteArray).data.toList with ⟨h,_⟩ | ⟨i,h,hl,_⟩
  · unfold ixL; omega
  · have:(⟨#[97,115,108,114]⟩:ByteArray).data.toList.length = 4:=rfl
    unfold ixL; omega
theorem rdB_4 (h0:0 < s.size) (h:ixL s + 1 = 4):(⟨ixL s + 1,0⟩:Av) = rdB s:=by
  unfold ixL at h ⊢
  rw [sAt_head h0] at h ⊢
  unfold rdB rdA
  rw [if_pos h,h]
theorem rdB_n (h0:0 < s.size) (h:¬ ixL s + 1 = 4):(⟨ixL s + 1,rdN (s.extract 1 s.size).data.toList⟩:Av) = rdB s:=by
  unfold ixL at h ⊢
  rw [sAt_head h0] at h ⊢
  unfold rdB rdA
  rw [if_neg h,ex_data,← sz_len,List.take_length]
theorem ex_size (s:ByteArray) (a b:Nat):(s.extract a b).size≤s.size:=by rw [ByteArray.size_extract]; omega
theorem wd_size (h:i < (wds s).length):((wds s).getD i ByteArray.empty).size≤s.size:=by
  have h1:=spl_at h
  have h2:((spl s.data.toList).getD i [])∈spl s.data.toList:=by
    rw [List.getD_eq_getElem?_getD,List.getElem?_eq_getElem (by rw [← (wds_len s).2]; exact h)]; exact List.getElem_mem _
  have h3:=spl_mem _ _ h2
  rw [← h1] at h3; exact h3
end sp
section ops
variable {P:Program} {ops:Array Oper} {w0:World} {Q:Act→World→Prop} {os:List Oper} {ks:List Nat} {N:Nat} {ρ:Nat→Value} {w:World}
  {d:Nat} {ty:TypeId} {pos:String} {aft:Array Edge} {g:Option (Nat × Bool)} {t e:TypeId}
theorem q_eqI {xt yt:TypeId} {x:Operand} {r:Value} {p:Bool} (ht:P.underlying xt = some (.interface (P.methodsAt xt))) (h9:(p = true∧r = .nilIface)∨(p = false∧∃ t q,r = .iface t q)) (hx:evF N ρ x = r) (hu:Up ops N ρ ⟨some d,.binOp .eql xt x (.const .nilIface) yt,ty,pos,aft,g⟩)
    (h:LW P ops w0 Q os ks (mk N (upd ρ d (.bool p))) w):LW P ops w0 Q (⟨some d,.binOp .eql xt x (.const .nilIface) yt,ty,pos,aft,g⟩ :: os) (0 :: ks) (mk N ρ) w:=by
  have hy:evF N ρ (.const .nilIface) = .nilIface:=rfl
  rcases h9 with ⟨rfl,rfl⟩ | ⟨rfl,t,q,rfl⟩
  · refine lw_q (by decide) rfl hu _ (fun w' _=>?_) h
    have he:(eqGuard .eql xt x (.const .nilIface) .nilIface .nilIface).run P w' = .ok () w':=by simp [eqGuard]
    have hr:(binOp .eql xt .nilIface .nilIface).run P w' = .ok (.bool true) w':=run_eql_nil_nil w' xt ht
    simp only [execOp,hx,hy,Sem.run_bind,he,Result.andThen_ok,hr,Sem.run_pure]
  · refine lw_q (by decide) rfl hu _ (fun w' _=>?_) h
    have he:(eqGuard .eql xt x (.const .nilIface) (.iface t q) .nilIface).run P w' = .ok () w':=by simp [eqGuard]
    have hr:(binOp .eql xt (.iface t q) .nilIface).run P w' = .ok (.bool false) w':=run_eql_held_nil w' xt t q ht
    simp only [execOp,hx,hy,Sem.run_bind,he,Result.andThen_ok,hr,Sem.run_pure]
end ops
end Go.Proofs.YtlbefjfhfodnlaaDoor
namespace Go.Proofs.YtlbefjfhfodnlaaDoor
open Go Go.RowKit Go.Shelf
set_option linter.unusedVariables false
set_option maxRecDepth 100000
def layJoin_ren : Go.Shelf.Ren := ⟨fun | 156 => 44 | 165 => 57 | 166 => 58 | 169 => 59 | 240 => 73 | 241 => 74 | 276 => 89 | 277 => 90 | n => n, fun | 31 => 52 | 9 => 9 | 3 => 3 | 4 => 4 | 0 => 0 | 20 => 20 | 72 => 88 | 76 => 90 | 70 => 86 | 37 => 22 | 75 => 79 | 127 => 98 | 164 => 115 | 5 => 5 | 80 => 92 | n => n, fun | n => n⟩
theorem layJoin : Go.Proofs.Lays.n156 Tryd.prog layJoin_ren := {
  mixed := by kernel_rfl
  f156 := Tryd.func44.trans (congrArg some (by kernel_rfl))
  f165 := Tryd.func57.trans (congrArg some (by kernel_rfl))
  f166 := Tryd.func58.trans (congrArg some (by kernel_rfl))
  f169 := Tryd.func59.trans (congrArg some (by kernel_rfl))
  f240 := Tryd.func73.trans (congrArg some (by kernel_rfl))
  f241 := Tryd.func74.trans (congrArg some (by kernel_rfl))
  f276 := Tryd.func89.trans (congrArg some (by kernel_rfl))
  f277 := Tryd.func90.trans (congrArg some (by kernel_rfl))
  t0 := Tryd.underlying0
  a0 := Tryd.isAgg0
  z0 := Tryd.sizeOf0
  v0 := Tryd.zeroValue0
  t3 := Tryd.underlying3
  a3 := Tryd.isAgg3
  z3 := Tryd.sizeOf3
  v3 := Tryd.zeroValue3
  t4 := Tryd.underlying4
  a4 := Tryd.isAgg4
  z4 := Tryd.sizeOf4
  v4 := Tryd.zeroValue4
  t9 := Tryd.underlying9
  a9 := Tryd.isAgg9
  z9 := Tryd.sizeOf9
  v9 := Tryd.zeroValue9
  t20 := Tryd.underlying20
  a20 := Tryd.isAgg20
  z20 := Tryd.sizeOf20
  v20 := Tryd.zeroValue20
  t31 := Tryd.underlying52
  a31 := Tryd.isAgg52
  z31 := Tryd.sizeOf52
  v31 := Tryd.zeroValue52
  t37 := Tryd.underlying22
  a37 := Tryd.isAgg22
  z37 := Tryd.sizeOf22
  v37 := Tryd.zeroValue22
  t70 := Tryd.underlying86
  a70 := Tryd.isAgg86
  z70 := Tryd.sizeOf86
  v70 := Tryd.zeroValue86
  t72 := Tryd.underlying88
  a72 := Tryd.isAgg88
  z72 := Tryd.sizeOf88
  v72 := Tryd.zeroValue88
  t75 := Tryd.underlying79
  a75 := Tryd.isAgg79
  z75 := Tryd.sizeOf79
  v75 := Tryd.zeroValue79
  t76 := Tryd.underlying90
  a76 := Tryd.isAgg90
  z76 := Tryd.sizeOf90
  v76 := Tryd.zeroValue90
  t127 := Tryd.underlying98
  a127 := Tryd.isAgg98
  z127 := Tryd.sizeOf98
  v127 := Tryd.zeroValue98
  t164 := Tryd.underlying115
  a164 := Tryd.isAgg115
  z164 := Tryd.sizeOf115
  v164 := Tryd.zeroValue115 }
theorem layJX:Builder.Extra Tryd.prog layJoin_ren where
  sizeBuilder:=by kernel_rfl
  liesBuilder:=by kernel_rfl
  t5:=Tryd.underlying5
  a5:=Tryd.isAgg5
  z5:=Tryd.sizeOf5
  v5:=Tryd.zeroValue5
  infoByte:=by kernel_rfl
  cellsByte:=by kernel_rfl
  sizeByte:=by kernel_rfl
  neB5:=by decide
def layIdx_ren : Go.Shelf.Ren := ⟨fun | 137 => 34 | 217 => 50 | 266 => 65 | n => n, fun | 9 => 9 | 5 => 5 | 3 => 3 | n => n, fun | n => n⟩
theorem layIdx : Go.Proofs.Lays.n137 Tryd.prog layIdx_ren := {
  mixed := by kernel_rfl
  f137 := Tryd.func34.trans (congrArg some (by kernel_rfl))
  f217 := Tryd.func50.trans (congrArg some (by kernel_rfl))
  f266 := Tryd.func65.trans (congrArg some (by kernel_rfl))
  t3 := Tryd.underlying3
  a3 := Tryd.isAgg3
  z3 := Tryd.sizeOf3
  v3 := Tryd.zeroValue3
  t5 := Tryd.underlying5
  a5 := Tryd.isAgg5
  z5 := Tryd.sizeOf5
  v5 := Tryd.zeroValue5
  t9 := Tryd.underlying9
  a9 := Tryd.isAgg9
  z9 := Tryd.sizeOf9
  v9 := Tryd.zeroValue9 }
def layFmtM_ren : Go.Shelf.Ren := ⟨fun | 173 => 56 | 246 => 72 | 283 => 85 | 284 => 86 | 285 => 87 | 286 => 88 | 129 => 101 | 317 => 100 | 318 => 102 | 319 => 103 | 320 => 104 | 337 => 107 | 338 => 108 | n => n, fun | 2 => 2 | 3 => 3 | 9 => 9 | 4 => 4 | 171 => 110 | 0 => 0 | 53 => 64 | 37 => 22 | 5 => 5 | 173 => 113 | 212 => 125 | 51 => 126 | 20 => 20 | 213 => 127 | 46 => 82 | 232 => 140 | 233 => 141 | n => n, fun | 17 => 3 | 18 => 6 | 19 => 7 | n => n⟩
theorem layFmtM : Go.Proofs.LaysM.n173 Tryd.prog layFmtM_ren := {
  mixed := by kernel_rfl
  f129 := Tryd.func101.trans (congrArg some (by kernel_rfl))
  f173 := Tryd.func56.trans (congrArg some (by kernel_rfl))
  f246 := Tryd.func72.trans (congrArg some (by kernel_rfl))
  f283 := Tryd.func85.trans (congrArg some (by kernel_rfl))
  f284 := Tryd.func86.trans (congrArg some (by kernel_rfl))
  f285 := Tryd.func87.trans (congrArg some (by kernel_rfl))
  f286 := Tryd.func88.trans (congrArg some (by kernel_rfl))
  f317 := Tryd.func100.trans (congrArg some (by kernel_rfl))
  f318 := Tryd.func102.trans (congrArg some (by kernel_rfl))
  f319 := Tryd.func103.trans (congrArg some (by kernel_rfl))
  f320 := Tryd.func104.trans (congrArg some (by kernel_rfl))
  f337 := Tryd.func107.trans (congrArg some (by kernel_rfl))
  f338 := Tryd.func108.trans (congrArg some (by kernel_rfl))
  t0 := Tryd.underlying0
  a0 := Tryd.isAgg0
  z0 := Tryd.sizeOf0
  v0 := Tryd.zeroValue0
  t2 := Tryd.underlying2
  a2 := Tryd.isAgg2
  z2 := Tryd.sizeOf2
  v2 := Tryd.zeroValue2
  t3 := Tryd.underlying3
  a3 := Tryd.isAgg3
  z3 := Tryd.sizeOf3
  v3 := Tryd.zeroValue3
  t4 := Tryd.underlying4
  a4 := Tryd.isAgg4
  z4 := Tryd.sizeOf4
  v4 := Tryd.zeroValue4
  t5 := Tryd.underlying5
  a5 := Tryd.isAgg5
  z5 := Tryd.sizeOf5
  v5 := Tryd.zeroValue5
  t9 := Tryd.underlying9
  a9 := Tryd.isAgg9
  z9 := Tryd.sizeOf9
  v9 := Tryd.zeroValue9
  t20 := Tryd.underlying20
  a20 := Tryd.isAgg20
  z20 := Tryd.sizeOf20
  v20 := Tryd.zeroValue20
  t37 := Tryd.underlying22
  a37 := Tryd.isAgg22
  z37 := Tryd.sizeOf22
  v37 := Tryd.zeroValue22
  t46 := Tryd.underlying82
  a46 := Tryd.isAgg82
  z46 := Tryd.sizeOf82
  v46 := Tryd.zeroValue82
  t51 := Tryd.underlying126
  a51 := Tryd.isAgg126
  z51 := Tryd.sizeOf126
  v51 := Tryd.zeroValue126
  t53 := Tryd.underlying64
  a53 := Tryd.isAgg64
  z53 := Tryd.sizeOf64
  v53 := Tryd.zeroValue64
  t171 := Tryd.underlying110
  a171 := Tryd.isAgg110
  z171 := Tryd.sizeOf110
  v171 := Tryd.zeroValue110
  t173 := Tryd.underlying113
  a173 := Tryd.isAgg113
  z173 := Tryd.sizeOf113
  v173 := Tryd.zeroValue113
  t212 := Tryd.underlying125
  a212 := Tryd.isAgg125
  z212 := Tryd.sizeOf125
  v212 := Tryd.zeroValue125
  t213 := Tryd.underlying127
  a213 := Tryd.isAgg127
  z213 := Tryd.sizeOf127
  t232 := Tryd.underlying140
  a232 := Tryd.isAgg140
  z232 := Tryd.sizeOf140
  v232 := Tryd.zeroValue140
  t233 := Tryd.underlying141
  a233 := Tryd.isAgg141
  z233 := Tryd.sizeOf141
  v233 := Tryd.zeroValue141
  g17 := by kernel_rfl
  g18 := by kernel_rfl
  g19 := by kernel_rfl
  i0 := by kernel_rfl
  i2 := by kernel_rfl
  i3 := by kernel_rfl
  i4 := by kernel_rfl
  i5 := by kernel_rfl
  i9 := by kernel_rfl
  i20 := by kernel_rfl
  i37 := by kernel_rfl
  i46 := by kernel_rfl
  i51 := by kernel_rfl
  i53 := by kernel_rfl
  i171 := by kernel_rfl
  i173 := by kernel_rfl
  i212 := by kernel_rfl
  i232 := by kernel_rfl
  i233 := by kernel_rfl
  m17 := by kernel_rfl
  m18 := by kernel_rfl
  m19 := by kernel_rfl }
def layPar_ren : Go.Shelf.Ren := ⟨fun | 174 => 51 | 247 => 66 | 245 => 67 | 287 => 79 | 279 => 80 | 280 => 81 | 281 => 82 | 282 => 83 | 321 => 95 | 322 => 96 | 316 => 97 | 171 => 99 | 205 => 98 | 243 => 106 | 246 => 72 | 283 => 85 | 284 => 86 | 285 => 87 | 286 => 88 | 129 => 101 | 317 => 100 | 318 => 102 | 319 => 103 | 320 => 104 | 337 => 107 | 338 => 108 | n => n, fun | 9 => 9 | 3 => 3 | 2 => 2 | 75 => 79 | 85 => 80 | 4 => 4 | 167 => 102 | 5 => 5 | 53 => 64 | 175 => 103 | 46 => 82 | 168 => 105 | 37 => 22 | 0 => 0 | 210 => 122 | 21 => 21 | 127 => 98 | 145 => 138 | 143 => 136 | 171 => 110 | 173 => 113 | 212 => 125 | 51 => 126 | 20 => 20 | 213 => 127 | 232 => 140 | 233 => 141 | 80 => 92 | n => n, fun | 15 => 1 | 16 => 2 | 17 => 3 | 18 => 6 | 19 => 7 | n => n⟩
theorem layPar : Go.Proofs.LaysC.n174 Tryd.prog layPar_ren := {
  mixed := by kernel_rfl
  f129 := Tryd.func101.trans (congrArg some (by kernel_rfl))
  f171 := Tryd.func99.trans (congrArg some (by kernel_rfl))
  f174 := Tryd.func51.trans (congrArg some (by kernel_rfl))
  f205 := Tryd.func98.trans (congrArg some (by kernel_rfl))
  f243 := Tryd.func106.trans (congrArg some (by kernel_rfl))
  f245 := Tryd.func67.trans (congrArg some (by kernel_rfl))
  f246 := Tryd.func72.trans (congrArg some (by kernel_rfl))
  f247 := Tryd.func66.trans (congrArg some (by kernel_rfl))
  f279 := Tryd.func80.trans (congrArg some (by kernel_rfl))
  f280 := Tryd.func81.trans (congrArg some (by kernel_rfl))
  f281 := Tryd.func82.trans (congrArg some (by kernel_rfl))
  f282 := Tryd.func83.trans (congrArg some (by kernel_rfl))
  f283 := Tryd.func85.trans (congrArg some (by kernel_rfl))
  f284 := Tryd.func86.trans (congrArg some (by kernel_rfl))
  f285 := Tryd.func87.trans (congrArg some (by kernel_rfl))
  f286 := Tryd.func88.trans (congrArg some (by kernel_rfl))
  f287 := Tryd.func79.trans (congrArg some (by kernel_rfl))
  f316 := Tryd.func97.trans (congrArg some (by kernel_rfl))
  f317 := Tryd.func100.trans (congrArg some (by kernel_rfl))
  f318 := Tryd.func102.trans (congrArg some (by kernel_rfl))
  f319 := Tryd.func103.trans (congrArg some (by kernel_rfl))
  f320 := Tryd.func104.trans (congrArg some (by kernel_rfl))
  f321 := Tryd.func95.trans (congrArg some (by kernel_rfl))
  f322 := Tryd.func96.trans (congrArg some (by kernel_rfl))
  f337 := Tryd.func107.trans (congrArg some (by kernel_rfl))
  f338 := Tryd.func108.trans (congrArg some (by kernel_rfl))
  t0 := Tryd.underlying0
  a0 := Tryd.isAgg0
  z0 := Tryd.sizeOf0
  v0 := Tryd.zeroValue0
  t2 := Tryd.underlying2
  a2 := Tryd.isAgg2
  z2 := Tryd.sizeOf2
  v2 := Tryd.zeroValue2
  t3 := Tryd.underlying3
  a3 := Tryd.isAgg3
  z3 := Tryd.sizeOf3
  v3 := Tryd.zeroValue3
  t4 := Tryd.underlying4
  a4 := Tryd.isAgg4
  z4 := Tryd.sizeOf4
  v4 := Tryd.zeroValue4
  t5 := Tryd.underlying5
  a5 := Tryd.isAgg5
  z5 := Tryd.sizeOf5
  v5 := Tryd.zeroValue5
  t9 := Tryd.underlying9
  a9 := Tryd.isAgg9
  z9 := Tryd.sizeOf9
  v9 := Tryd.zeroValue9
  t20 := Tryd.underlying20
  a20 := Tryd.isAgg20
  z20 := Tryd.sizeOf20
  v20 := Tryd.zeroValue20
  t21 := Tryd.underlying21
  a21 := Tryd.isAgg21
  z21 := Tryd.sizeOf21
  v21 := Tryd.zeroValue21
  t37 := Tryd.underlying22
  a37 := Tryd.isAgg22
  z37 := Tryd.sizeOf22
  v37 := Tryd.zeroValue22
  t46 := Tryd.underlying82
  a46 := Tryd.isAgg82
  z46 := Tryd.sizeOf82
  v46 := Tryd.zeroValue82
  t51 := Tryd.underlying126
  a51 := Tryd.isAgg126
  z51 := Tryd.sizeOf126
  v51 := Tryd.zeroValue126
  t53 := Tryd.underlying64
  a53 := Tryd.isAgg64
  z53 := Tryd.sizeOf64
  v53 := Tryd.zeroValue64
  t75 := Tryd.underlying79
  a75 := Tryd.isAgg79
  z75 := Tryd.sizeOf79
  v75 := Tryd.zeroValue79
  t85 := Tryd.underlying80
  a85 := Tryd.isAgg80
  z85 := Tryd.sizeOf80
  v85 := Tryd.zeroValue80
  t127 := Tryd.underlying98
  a127 := Tryd.isAgg98
  z127 := Tryd.sizeOf98
  v127 := Tryd.zeroValue98
  t143 := Tryd.underlying136
  a143 := Tryd.isAgg136
  z143 := Tryd.sizeOf136
  v143 := Tryd.zeroValue136
  t145 := Tryd.underlying138
  a145 := Tryd.isAgg138
  z145 := Tryd.sizeOf138
  v145 := Tryd.zeroValue138
  t167 := Tryd.underlying102
  a167 := Tryd.isAgg102
  z167 := Tryd.sizeOf102
  v167 := Tryd.zeroValue102
  t168 := Tryd.underlying105
  a168 := Tryd.isAgg105
  z168 := Tryd.sizeOf105
  v168 := Tryd.zeroValue105
  t171 := Tryd.underlying110
  a171 := Tryd.isAgg110
  z171 := Tryd.sizeOf110
  v171 := Tryd.zeroValue110
  t173 := Tryd.underlying113
  a173 := Tryd.isAgg113
  z173 := Tryd.sizeOf113
  v173 := Tryd.zeroValue113
  t175 := Tryd.underlying103
  a175 := Tryd.isAgg103
  z175 := Tryd.sizeOf103
  v175 := Tryd.zeroValue103
  t210 := Tryd.underlying122
  a210 := Tryd.isAgg122
  z210 := Tryd.sizeOf122
  v210 := Tryd.zeroValue122
  t212 := Tryd.underlying125
  a212 := Tryd.isAgg125
  z212 := Tryd.sizeOf125
  v212 := Tryd.zeroValue125
  t213 := Tryd.underlying127
  a213 := Tryd.isAgg127
  z213 := Tryd.sizeOf127
  t232 := Tryd.underlying140
  a232 := Tryd.isAgg140
  z232 := Tryd.sizeOf140
  v232 := Tryd.zeroValue140
  t233 := Tryd.underlying141
  a233 := Tryd.isAgg141
  z233 := Tryd.sizeOf141
  v233 := Tryd.zeroValue141
  g15 := by kernel_rfl
  g16 := by kernel_rfl
  g17 := by kernel_rfl
  g18 := by kernel_rfl
  g19 := by kernel_rfl
  t80 := Tryd.underlying92
  a80 := Tryd.isAgg92
  z80 := Tryd.sizeOf92
  v80 := Tryd.zeroValue92
  i0 := by kernel_rfl
  i2 := by kernel_rfl
  i3 := by kernel_rfl
  i4 := by kernel_rfl
  i5 := by kernel_rfl
  i9 := by kernel_rfl
  i20 := by kernel_rfl
  i21 := by kernel_rfl
  i37 := by kernel_rfl
  i46 := by kernel_rfl
  i51 := by kernel_rfl
  i53 := by kernel_rfl
  i75 := by kernel_rfl
  i80 := by kernel_rfl
  i85 := by kernel_rfl
  i127 := by kernel_rfl
  i143 := by kernel_rfl
  i145 := by kernel_rfl
  i167 := by kernel_rfl
  i168 := by kernel_rfl
  i171 := by kernel_rfl
  i173 := by kernel_rfl
  i175 := by kernel_rfl
  i210 := by kernel_rfl
  i212 := by kernel_rfl
  i232 := by kernel_rfl
  i233 := by kernel_rfl
  m15 := by kernel_rfl
  m16 := by kernel_rfl
  m17 := by kernel_rfl
  m18 := by kernel_rfl
  m19 := by kernel_rfl
  c0 := by kernel_rfl
  c2 := by kernel_rfl
  c3 := by kernel_rfl
  c4 := by kernel_rfl
  c5 := by kernel_rfl
  c9 := by kernel_rfl
  c20 := by kernel_rfl
  c21 := by kernel_rfl
  c37 := by kernel_rfl
  c46 := by kernel_rfl
  c51 := by kernel_rfl
  c53 := by kernel_rfl
  c75 := by kernel_rfl
  c80 := by kernel_rfl
  c85 := by kernel_rfl
  c127 := by kernel_rfl
  c143 := by kernel_rfl
  c145 := by kernel_rfl
  c167 := by kernel_rfl
  c168 := by kernel_rfl
  c171 := by kernel_rfl
  c173 := by kernel_rfl
  c175 := by kernel_rfl
  c210 := by kernel_rfl
  c212 := by kernel_rfl
  c213 := by kernel_rfl
  c232 := by kernel_rfl
  c233 := by kernel_rfl }
def laySpl_ren : Go.Shelf.Ren := ⟨fun | 146 => 33 | 221 => 49 | 268 => 62 | 138 => 63 | 143 => 64 | 195 => 75 | 197 => 76 | 218 => 77 | 219 => 78 | 260 => 91 | 217 => 50 | 225 => 92 | 224 => 93 | 267 => 94 | 266 => 65 | 314 => 105 | n => n, fun | 9 => 9 | 31 => 52 | 3 => 3 | 4 => 4 | 0 => 0 | 105 => 100 | 21 => 21 | 5 => 5 | 46 => 82 | 119 => 130 | 139 => 133 | 138 => 132 | 146 => 134 | 51 => 126 | n => n, fun | 1 => 0 | 3 => 4 | 4 => 5 | n => n⟩
theorem laySpl : Go.Proofs.Lays.n146 Tryd.prog laySpl_ren := {
  mixed := by kernel_rfl
  f138 := Tryd.func63.trans (congrArg some (by kernel_rfl))
  f143 := Tryd.func64.trans (congrArg some (by kernel_rfl))
  f146 := Tryd.func33.trans (congrArg some (by kernel_rfl))
  f195 := Tryd.func75.trans (congrArg some (by kernel_rfl))
  f197 := Tryd.func76.trans (congrArg some (by kernel_rfl))
  f217 := Tryd.func50.trans (congrArg some (by kernel_rfl))
  f218 := Tryd.func77.trans (congrArg some (by kernel_rfl))
  f219 := Tryd.func78.trans (congrArg some (by kernel_rfl))
  f221 := Tryd.func49.trans (congrArg some (by kernel_rfl))
  f224 := Tryd.func93.trans (congrArg some (by kernel_rfl))
  f225 := Tryd.func92.trans (congrArg some (by kernel_rfl))
  f260 := Tryd.func91.trans (congrArg some (by kernel_rfl))
  f266 := Tryd.func65.trans (congrArg some (by kernel_rfl))
  f267 := Tryd.func94.trans (congrArg some (by kernel_rfl))
  f268 := Tryd.func62.trans (congrArg some (by kernel_rfl))
  f314 := Tryd.func105.trans (congrArg some (by kernel_rfl))
  t0 := Tryd.underlying0
  a0 := Tryd.isAgg0
  z0 := Tryd.sizeOf0
  v0 := Tryd.zeroValue0
  t3 := Tryd.underlying3
  a3 := Tryd.isAgg3
  z3 := Tryd.sizeOf3
  v3 := Tryd.zeroValue3
  t4 := Tryd.underlying4
  a4 := Tryd.isAgg4
  z4 := Tryd.sizeOf4
  v4 := Tryd.zeroValue4
  t5 := Tryd.underlying5
  a5 := Tryd.isAgg5
  z5 := Tryd.sizeOf5
  v5 := Tryd.zeroValue5
  t9 := Tryd.underlying9
  a9 := Tryd.isAgg9
  z9 := Tryd.sizeOf9
  v9 := Tryd.zeroValue9
  t21 := Tryd.underlying21
  a21 := Tryd.isAgg21
  z21 := Tryd.sizeOf21
  v21 := Tryd.zeroValue21
  t31 := Tryd.underlying52
  a31 := Tryd.isAgg52
  z31 := Tryd.sizeOf52
  v31 := Tryd.zeroValue52
  t46 := Tryd.underlying82
  a46 := Tryd.isAgg82
  z46 := Tryd.sizeOf82
  v46 := Tryd.zeroValue82
  t51 := Tryd.underlying126
  a51 := Tryd.isAgg126
  z51 := Tryd.sizeOf126
  v51 := Tryd.zeroValue126
  t105 := Tryd.underlying100
  a105 := Tryd.isAgg100
  z105 := Tryd.sizeOf100
  v105 := Tryd.zeroValue100
  t119 := Tryd.underlying130
  a119 := Tryd.isAgg130
  z119 := Tryd.sizeOf130
  t138 := Tryd.underlying132
  a138 := Tryd.isAgg132
  z138 := Tryd.sizeOf132
  v138 := Tryd.zeroValue132
  t139 := Tryd.underlying133
  a139 := Tryd.isAgg133
  z139 := Tryd.sizeOf133
  v139 := Tryd.zeroValue133
  t146 := Tryd.underlying134
  a146 := Tryd.isAgg134
  z146 := Tryd.sizeOf134
  v146 := Tryd.zeroValue134
  g1 := by kernel_rfl
  g3 := by kernel_rfl
  g4 := by kernel_rfl }
def laySplM_ren : Go.Shelf.Ren := ⟨fun | 146 => 33 | 221 => 49 | 268 => 62 | 138 => 63 | 143 => 64 | 195 => 75 | 197 => 76 | 218 => 77 | 219 => 78 | 260 => 91 | 217 => 50 | 225 => 92 | 224 => 93 | 267 => 94 | 266 => 65 | 314 => 105 | n => n, fun | 9 => 9 | 31 => 52 | 3 => 3 | 4 => 4 | 0 => 0 | 105 => 100 | 21 => 21 | 5 => 5 | 46 => 82 | 119 => 130 | 139 => 133 | 138 => 132 | 146 => 134 | 51 => 126 | n => n, fun | 1 => 0 | 3 => 4 | 4 => 5 | n => n⟩
theorem laySplM : Go.Proofs.LaysM.n146 Tryd.prog laySplM_ren := {
  mixed := by kernel_rfl
  f138 := Tryd.func63.trans (congrArg some (by kernel_rfl))
  f143 := Tryd.func64.trans (congrArg some (by kernel_rfl))
  f146 := Tryd.func33.trans (congrArg some (by kernel_rfl))
  f195 := Tryd.func75.trans (congrArg some (by kernel_rfl))
  f197 := Tryd.func76.trans (congrArg some (by kernel_rfl))
  f217 := Tryd.func50.trans (congrArg some (by kernel_rfl))
  f218 := Tryd.func77.trans (congrArg some (by kernel_rfl))
  f219 := Tryd.func78.trans (congrArg some (by kernel_rfl))
  f221 := Tryd.func49.trans (congrArg some (by kernel_rfl))
  f224 := Tryd.func93.trans (congrArg some (by kernel_rfl))
  f225 := Tryd.func92.trans (congrArg some (by kernel_rfl))
  f260 := Tryd.func91.trans (congrArg some (by kernel_rfl))
  f266 := Tryd.func65.trans (congrArg some (by kernel_rfl))
  f267 := Tryd.func94.trans (congrArg some (by kernel_rfl))
  f268 := Tryd.func62.trans (congrArg some (by kernel_rfl))
  f314 := Tryd.func105.trans (congrArg some (by kernel_rfl))
  t0 := Tryd.underlying0
  a0 := Tryd.isAgg0
  z0 := Tryd.sizeOf0
  v0 := Tryd.zeroValue0
  t3 := Tryd.underlying3
  a3 := Tryd.isAgg3
  z3 := Tryd.sizeOf3
  v3 := Tryd.zeroValue3
  t4 := Tryd.underlying4
  a4 := Tryd.isAgg4
  z4 := Tryd.sizeOf4
  v4 := Tryd.zeroValue4
  t5 := Tryd.underlying5
  a5 := Tryd.isAgg5
  z5 := Tryd.sizeOf5
  v5 := Tryd.zeroValue5
  t9 := Tryd.underlying9
  a9 := Tryd.isAgg9
  z9 := Tryd.sizeOf9
  v9 := Tryd.zeroValue9
  t21 := Tryd.underlying21
  a21 := Tryd.isAgg21
  z21 := Tryd.sizeOf21
  v21 := Tryd.zeroValue21
  t31 := Tryd.underlying52
  a31 := Tryd.isAgg52
  z31 := Tryd.sizeOf52
  v31 := Tryd.zeroValue52
  t46 := Tryd.underlying82
  a46 := Tryd.isAgg82
  z46 := Tryd.sizeOf82
  v46 := Tryd.zeroValue82
  t51 := Tryd.underlying126
  a51 := Tryd.isAgg126
  z51 := Tryd.sizeOf126
  v51 := Tryd.zeroValue126
  t105 := Tryd.underlying100
  a105 := Tryd.isAgg100
  z105 := Tryd.sizeOf100
  v105 := Tryd.zeroValue100
  t119 := Tryd.underlying130
  a119 := Tryd.isAgg130
  z119 := Tryd.sizeOf130
  t138 := Tryd.underlying132
  a138 := Tryd.isAgg132
  z138 := Tryd.sizeOf132
  v138 := Tryd.zeroValue132
  t139 := Tryd.underlying133
  a139 := Tryd.isAgg133
  z139 := Tryd.sizeOf133
  v139 := Tryd.zeroValue133
  t146 := Tryd.underlying134
  a146 := Tryd.isAgg134
  z146 := Tryd.sizeOf134
  v146 := Tryd.zeroValue134
  g1 := by kernel_rfl
  g3 := by kernel_rfl
  g4 := by kernel_rfl
  i0 := by kernel_rfl
  i3 := by kernel_rfl
  i4 := by kernel_rfl
  i5 := by kernel_rfl
  i9 := by kernel_rfl
  i21 := by kernel_rfl
  i31 := by kernel_rfl
  i46 := by kernel_rfl
  i51 := by kernel_rfl
  i105 := by kernel_rfl
  i138 := by kernel_rfl
  i139 := by kernel_rfl
  i146 := by kernel_rfl
  m1 := by kernel_rfl
  s1_3 := fun w h => Go.Proofs.cell_of_shapedOpen_int (zero := #[.int .i64 0]) (t := 3) h (of_decide_eq_true (by kernel_rfl)) (by kernel_rfl) rfl (by kernel_rfl) (by kernel_rfl) Tryd.underlying3
  m3 := by kernel_rfl
  m4 := by kernel_rfl }
theorem sent_of {P:Program} {W:World} {n nm:String} {d:DataW Unit} {g t:Nat} {ms:Array (String × TypeId)} (hg:P.globalNamed n = some g) (ht:(P.globals[g]?).map (·.type) = some t) (hu:P.underlying t = some (.interface ms))
    (h:Lib.VarReads P W n (.iface nm d)):∃ u v,W.cell? ⟨g,0,none⟩ = some (.iface u v):=by
  obtain ⟨g',t',cs,fuel,p,hg',ht',hv,hd⟩:=h
  obtain rfl:=Option.some.inj (hg.symm.trans hg')
  obtain rfl:=Option.some.inj (ht.symm.trans ht')
  obtain ⟨_,u,v,hc,_⟩:=iface_of_trod hu hd
  refine ⟨u,v,?_⟩
  rw [World.var?_cell hg hv 0]
  have:cs.toList[0]? = some (.iface u v):=by rw [hc]; rfl
  simpa using this
structure GW (w:World):Prop where
  ml:∃ m,w.cell? ⟨0,0,none⟩ = some (.int .i64 m)
  es:∃ t p,w.cell? ⟨1,0,none⟩ = some (.iface t p)
  er:∃ t p,w.cell? ⟨2,0,none⟩ = some (.iface t p)
  tb:Lib.TabIs Tryd.prog w "internal/strconv.uint64pow10" .u64 Lib.pow10Tab
theorem cell_ltW {w:World} {g:Nat} {v:Value} (h:w.cell? ⟨g,0,none⟩ = some v):g < w.heap.size:=Lib.lt_of_cell h
theorem gw_pow:Tryd.prog.globalNamed "internal/strconv.uint64pow10" = some 3:=by kernel_rfl
theorem GW.ext {w w':World} (h:GW w) (k:Ext w w'):GW w':=by
  have hc:∀ {g v},w.cell? ⟨g,0,none⟩ = some v→w'.cell? ⟨g,0,none⟩ = some v:=fun {g v} hg=>by
    rw [← hg]; exact Below.cell k (cell_ltW hg)
  obtain ⟨⟨m,h1⟩,⟨t,p,h2⟩,⟨t',p',h3⟩,h4⟩:=h
  exact ⟨⟨m,hc h1⟩,⟨t,p,hc h2⟩,⟨t',p',hc h3⟩,var?_below k gw_pow (cell_ltW (h4.cell gw_pow 0 (by decide))) h4⟩
theorem um79:Tryd.prog.underlying 79 = some (.interface (Tryd.prog.methodsAt 79)):=by kernel_rfl
theorem c_ixb (w:World) (s:ByteArray) (c:Nat):Calls Tryd.prog 34 #[.string s,.int .u8 ((c:Nat):Int)] w fun e w'=>e = .returned (.int .i64 (Lib.indexByte s.data.toList c.toUInt8))∧w' = w:=Any.strings_IndexByte layIdx s c w
theorem c_split (w:World) (hG:GW w) (s:ByteArray) (hs:s.size < 4294967281) :
    Calls Tryd.prog 33 #[.string s,.string ⟨#[32]⟩] w fun e w'=>∃ v,e = .returned v∧Ext w w'∧Fr (owL rT 9) w.heap.size w'.heap.size w'.heap v (wds s):=by
  obtain ⟨m,hm⟩:=hG.ml
  refine (Any.strings_Split laySpl (by kernel_rfl) s ⟨#[32]⟩ m w hs hm (by decide)).mono fun e w' ⟨he,hw⟩=>?_
  subst hw
  have hl:(wds s).length = Lib.countB s ⟨#[32]⟩ + 1:=Lib.splitB_all _ (by decide) 0 _ s rfl
  have h:=fr_newT (w:=w) (e:=9) (wds s) (by
    have:=spl_length s.data.toList
    have h2:=(wds_len s).2
    have h3:s.data.toList.length = s.size:=rfl
    unfold maxLen; omega)
  rw [hl] at h
  exact ⟨_,he,ext_alloc _ _,h⟩
theorem els_rT {H:Array Obj}:∀ {us:List Value} {vs:List ByteArray} {F:List Nat},els rT H us vs F→us = vs.map Value.string
  | [],[],_,h=>rfl
  | _ :: _,_ :: _,_,⟨F1,F2,rfl,h1,h2⟩=>by rw [els_rT h2,h1.1]; rfl
  | [],_ :: _,_,h=>h.elim
  | _ :: _,[],_,h=>h.elim
theorem c_join (w:World) (v:Value) (xs:List ByteArray) {B U:Nat} (hv:Fr (owL rT 9) B U w.heap v xs) (hn:xs.length≤100000000) (hl:(jn (xs.map (·.data.toList))).length≤140737488355328) :
    Calls Tryd.prog 44 #[v,.string ⟨#[32]⟩] w fun e w'=>e = .returned (.string (ba (jn (xs.map (·.data.toList)))))∧Ext w w':=by
  obtain ⟨F,hv,_,_⟩:=hv
  rcases hv with ⟨rfl,rfl,_⟩ | ⟨us,b,cap,cur,F',hels,rfl,hg,q1,q2,q3,q4,rfl⟩
  · refine (Any.strings_Join_none layJoin layJX none 0 ⟨#[32]⟩ w).mono fun e w' ⟨he,hw⟩=>⟨he,by subst hw; exact Ext.refl _⟩
  · have hu:=els_rT hels
    have hj:=jn_lib (xs.map (·.data.toList))
    refine (Any.strings_Join layJoin layJX b 0 cap xs ⟨#[32]⟩ w (fun j x hx=>?_) (getElem?_lt hg) (by omega) q1 (by rw [show (⟨#[32]⟩:ByteArray).data.toList = [32] from rfl,hj]; exact hl)).mono fun e w' ⟨he,hw⟩=>⟨?_,hw⟩
    · rw [cell_cellH]
      simp only [cellH,hg,Nat.zero_add]
      have e1:(cur.toList.take xs.length)[j]? = some (.string x):=by rw [q4,hu,List.getElem?_map,hx]; rfl
      have hj:j < xs.length:=(List.getElem?_eq_some_iff.1 hx).1
      rw [List.getElem?_take,if_pos hj] at e1
      simpa using e1
    · rw [he,show (⟨#[32]⟩:ByteArray).data.toList = [32] from rfl,hj]; rfl
theorem c_fmt (w:World) (hG:GW w) (n:Int) (h:-9223372036854775808≤n∧n≤9223372036854775807):Calls Tryd.prog 56 #[.int .i64 n,.int .i64 10] w fun e w'=>e = .returned (.string (ba (Lib.itoa n)))∧Ext w w' :=
  (Any.strconv_FormatInt_10 layFmtM n h.1 h.2 w hG.tb).mono fun e w' ⟨he,k,os,hw⟩=>⟨he,by
    subst hw
    exact ⟨rfl,rfl,rfl,by show w.heap.size≤(w.heap++os).size; rw [Array.size_append]; omega,fun b hb=>by
      show (w.heap++os)[b]? = w.heap[b]?
      exact Array.getElem?_append_left hb⟩⟩
theorem c_parse (w:World) (hG:GW w) (s:ByteArray) (hs:s.size≤281474976710656):Calls Tryd.prog 51 #[.string s,.int .i64 10,.int .i64 64] w fun e w' =>
    ∃ r,e = .returned (.tuple #[.int .i64 (rdN s.data.toList),r])∧Ext w w'∧((pOk s.data.toList = true∧r = .nilIface)∨(pOk s.data.toList = false∧∃ t p,r = .iface t p)):=by
  obtain ⟨t,p,he⟩:=hG.es
  obtain ⟨t',p',hr⟩:=hG.er
  cases h:Lib.parseIntB 64 s.data.toList with
  | ok v =>
    refine (Any.strconv_ParseInt_10_at64_ok layPar s (by omega) v h w).mono fun e w' ⟨h1,h2⟩=>⟨.nilIface,?_,?_,.inl ⟨?_,rfl⟩⟩
    · rw [h1]; unfold rdN; rw [h]
    · rcases h2 with rfl | ⟨x,rfl⟩
      · exact Ext.refl _
      · exact Lib.bytesWorld_below _ _ _
    · unfold pOk; rw [h]
  | «syntax» =>
    have e0:rdN s.data.toList = 0:=by unfold rdN; rw [h]
    refine (Any.strconv_ParseInt_10_at64_syntax layPar s hs h _ w he (.inr ⟨_,_,rfl⟩)).mono fun e w' ⟨M,h1,_,_,h2⟩=>?_
    rw [e0]
    exact ⟨_,h1,h2,.inr ⟨by unfold pOk; rw [h],_,_,rfl⟩⟩
  | range =>
    have e0:rdN s.data.toList = Lib.intSat 64 s.data.toList:=by unfold rdN; rw [h]
    refine (Any.strconv_ParseInt_10_at64_range layPar s hs h _ w hr (.inr ⟨_,_,rfl⟩)).mono fun e w' ⟨M,h1,_,_,h2⟩=>?_
    rw [e0]
    exact ⟨_,h1,h2,.inr ⟨by unfold pOk; rw [h],_,_,rfl⟩⟩
end Go.Proofs.YtlbefjfhfodnlaaDoor
namespace Go.Proofs.YtlbefjfhfodnlaaDoor
open Go Go.RowKit
set_option linter.unusedVariables false
set_option linter.unusedSimpArgs false
set_option maxHeartbeats 4000000
set_option maxRecDepth 100000
attribute [local irreducible] LW
theorem c_impl_decimal (w:World) (n:Int) (_hn:-9223372036854775808≤n∧n≤9223372036854775807) (hG:GW w) :
  Calls Tryd.prog 43 #[.int .i64 n] w (fun e w'=>e = .returned (.string (ba (Lib.itoa n)))∧Ext w w'):=by
 refine calls_mk [.int .i64 n] 5 Tryd.func43 rfl rfl sM ?_
 have hE0:Ext w w:=Ext.refl w
 refine wp_seq (wp_plain _ [0] rfl (lw_tvn 1 rfl (wp_seq (wp_plain _ [0,3,0] rfl (lw_tv 1 rfl (lw_call 56 [] [] [(.int .i64 n),(.int .i64 ((10 :Nat):Int))] rfl rfl cf56 zN (c_fmt _ (hG.ext hE0) (n) _hn) ?_))))))
 rintro e1 w1 ⟨rfl,hX1⟩
 refine ⟨_,rfl,hX1,?_⟩
 have hzs1:w.heap.size≤w1.heap.size:=hX1.size
 have hE1:Ext w w1:=hE0.trans hX1
 exact lw_tvn 1 rfl (wp_ret (post_ret [2] rfl (.string (ba (Lib.itoa (n)))) rfl (by exact ⟨rfl,hE1⟩)))
theorem z35_0 {p:Prop} (h:p:=by refine ⟨?_,hE3⟩; first | exact ret_pair (rdO_1 (by assumption)) | exact ret_pair (rdO_2 (by assumption)) | exact ret_pair (rdO_3 (by assumption) (by assumption))):p:=h
theorem c_impl_readDecimal (w:World) (s:ByteArray) (low:Int) (high:Int) (_hlow:-9223372036854775808≤low∧low≤9223372036854775807) (_hhigh:-9223372036854775808≤high∧high≤9223372036854775807) (hs:s.size≤281474976710656) (hG:GW w) :
  Calls Tryd.prog 35 #[.string s,.int .i64 low,.int .i64 high] w (fun e w'=>e = .returned (.tuple #[.int .i64 (rdN s.data.toList),.bool (rdO s low high)])∧Ext w w'):=by
 refine calls_mk [.string s,.int .i64 low,.int .i64 high] 30 Tryd.func35 rfl rfl sM ?_
 have hE0:Ext w w:=Ext.refl w
 refine wp_seq (wp_plain _ [0,0] rfl (lw_tvn 2 rfl (wp_seq (wp_plain _ [0,3,0,0,0,0,0] rfl (lw_tv 1 rfl (lw_call 51 [] [] [(.string s),(.int .i64 ((10 :Nat):Int)),(.int .i64 ((64 :Nat):Int))] rfl rfl cf51 zN (c_parse _ (hG.ext hE0) (s) oM) ?_))))))
 rintro e1 w1 ⟨r1,rfl,hX1,hp1⟩
 refine ⟨_,rfl,hX1,?_⟩
 have hzs1:w.heap.size≤w1.heap.size:=hX1.size
 have hE1:Ext w w1:=hE0.trans hX1
 refine lw_tv 1 rfl (q_extract (vs:=[(.int .i64 (rdN (s).data.toList)),r1]) (.int .i64 (rdN (s).data.toList)) rfl rfl zN (q_extract (vs:=[(.int .i64 (rdN (s).data.toList)),r1]) r1 rfl rfl zN (lw_tvn 2 rfl (wp_seq (wp_plain _ [0,0,0,0,0,3,0,0,0,0,0,0,0,0,0,0,0] rfl (lw_tv 2 rfl (q_eqI um79 hp1 rfl zN (lw_tv 1 rfl ?_))))))))
 cases hb2:(pOk (s).data.toList)
 ·
  exact lw_tvn 13 rfl (wp_ret (post_ret [6,7] rfl (.tuple #[(.int .i64 (rdN (s).data.toList)),(.bool false)]) rfl (by refine ⟨?_,hE1⟩; first | exact ret_pair (rdO_1 (by assumption)) | exact ret_pair (rdO_2 (by assumption)) | exact ret_pair (rdO_3 (by assumption) (by assumption)))))
 ·
  refine lw_tv 1 rfl (lw_call 43 [] [] [(.int .i64 (rdN (s).data.toList))] rfl rfl cf43 (zS (e:=18) rfl rfl rfl) (c_impl_decimal _ (rdN (s).data.toList) (rdN_rng _) (hG.ext hE1)) ?_)
  rintro e3 w3 ⟨rfl,hX3⟩
  refine ⟨_,rfl,hX3,?_⟩
  have hzs3:w1.heap.size≤w3.heap.size:=hX3.size
  have hE3:Ext w w3:=hE1.trans hX3
  refine lw_tv 1 rfl ?_
  cases hc4:strE (ba (Lib.itoa (rdN (s).data.toList))) s
  ·
   exact q_eqls false u9 rfl rfl hc4 (zS (e:=18) rfl rfl rfl) (lw_tvn 9 rfl (wp_ret (post_ret [6,7] rfl (.tuple #[(.int .i64 (rdN (s).data.toList)),(.bool false)]) rfl z35_0)))
  ·
   exact q_eqls true u9 rfl rfl hc4 (zS (e:=18) rfl rfl rfl) (lw_tv 5 rfl (lw_callq 40 [] [] [(.int .i64 (rdN (s).data.toList)),(.int .i64 low),(.int .i64 high)] rfl rfl cf40 (zS (e:=24) rfl rfl rfl) (.bool (decide (low≤(rdN (s).data.toList)) && decide ((rdN (s).data.toList)≤high))) (fun wq=>c_impl_within wq _ _ _ (rdN_rng _) _hlow _hhigh) (lw_tvn 3 rfl (wp_ret (post_ret [6,7] rfl (.tuple #[(.int .i64 (rdN (s).data.toList)),(.bool (decide (low≤(rdN (s).data.toList)) && decide ((rdN (s).data.toList)≤high)))]) rfl z35_0)))))
theorem z36_0 {p:Prop} (h:p:=by first | exact ⟨ret_str (sc_bad (by assumption)),hE1⟩ | exact ⟨ret_str (sc_nil (by assumption) oM),hE1⟩ | exact ⟨ret_str (sc_end (by assumption) oM oM),hE1⟩):p:=h
theorem c_impl_ScheduleText (w:World) (va:Value) (l:List Av) (hl:RN [] (rdS 2 rAv) w.heap va l) (hll:l.length≤1000000000) (hG:GW w) :
  Calls Tryd.prog 36 #[va] w (fun e w'=>e = .returned (.string (ba (scL l)))∧Ext w w'):=by
 refine calls_mk [va] 43 Tryd.func36 rfl rfl sM ?_
 have hE0:Ext w w:=Ext.refl w
 refine wp_seq (wp_plain _ [0] rfl (lw_tvn 1 rfl (wp_seq (wp_block (wp_seq (wp_plain _ [0,3,0,0] rfl (lw_tv 1 rfl (lw_call 52 [] [] [va] rfl rfl cf52 zN (c_impl_ValidSchedule _ va l (hl.ext (good_rdS good_rAv) hE0)) ?_))))))))
 rintro e1 w1 ⟨rfl,hX1⟩
 refine ⟨_,rfl,hX1,?_⟩
 have hzs1:w.heap.size≤w1.heap.size:=hX1.size
 have hE1:Ext w w1:=hE0.trans hX1
 refine q_not (!(schB l)) rfl rfl zN (lw_tvn 1 rfl ?_)
 cases hb2:(!(schB l))
 ·
  refine c_cond_f (by first | rfl | (show Value.bool _ = _; rw [hb2])) (wp_seq (wp_plain _ [0,0,0,0] rfl (lw_tv 1 rfl (q_len (v:=va) u34 rfl hl.isSl zN ?_))))
  by_cases hc3:((l.length :Nat):Int) = ((0 :Nat):Int)
  ·
   exact q_eql true rfl rfl (decide_eq_true hc3) zN (lw_tvn 1 rfl (c_cond_t rfl (wp_seq (wp_plain _ [0] rfl (lw_tvn 1 rfl (wp_ret (b_ret (t_ret (post_ret [2] rfl (.string (⟨#[45]⟩)) rfl z36_0)))))))))
  ·
   refine q_eql false rfl rfl (decide_eq_false hc3) zN (lw_tvn 1 rfl (c_cond_f rfl (wp_skip (wp_seq (wp_plain _ [3,0] rfl (r_nil rT good_rT u52 ti9 zN fun v4 w4 hX4 hz4 hO4=>?_))))))
   have hzs4:w1.heap.size≤w4.heap.size:=hX4.size
   have hE4:Ext w w4:=hE1.trans hX4
   refine lw_tvn 1 rfl (wp_seq (wp_seq (wp_plain _ [0,0,0] rfl (lw_tv 1 rfl (q_len (v:=va) u34 rfl hl.isSl zN (lw_tvn 1 rfl (wp_block ?_)))))))
   refine c_loop (S:=Nat × Value) (fun (⟨k,vo⟩:Nat × Value)=>([(3,vo),(18,(.int .i64 ((k :Nat):Int))),(16,va),(17,(.int .i64 ((l.length :Nat):Int)))]:List (Nat × Value))) (fun (⟨k,vo⟩:Nat × Value) (W:World)=>Ext w W∧Fr (owL rT 9) w.heap.size W.heap.size W.heap vo ((l.take k).map wdB)∧k≤l.length) (fun (⟨k,vo⟩:Nat × Value)=>l.length - k) (0,v4) ⟨rfl,rfl,rfl,rfl,trivial⟩ ⟨hE4,(hO4.up oT).low hE1.size,sD⟩ ?_
   clear hE0 hX1 hzs1 hE1 hO4 hz4 hX4 hzs4 hE4
   rintro ⟨k,vo⟩ ρ5 w5 ⟨hE5,hL5_0,hp5_0⟩
   have hzs5:w.heap.size≤w5.heap.size:=hE5.size
   refine wp_seq (wp_plain _ [0] rfl ?_)
   by_cases hc6:((k :Nat):Int) < ((l.length :Nat):Int)
   ·
    refine q_lss true rfl rfl (decide_eq_true hc6) zN (lw_nil (wp_seq (c_cond_t rfl (wp_skip (wp_seq (wp_block (wp_seq (wp_plain _ [0,2,3,4] rfl (q_idx (v:=va) k u34 tiS55 rfl rfl hl.isSl rfl sD zN ?_)))))))))
    obtain ⟨cs7,hr7,hl7⟩:=hl.get good_rAv Av.zero (k:=k) sD
    obtain ⟨rfl,hx7⟩:=rn_av hr7
    refine q_loadA (p:=eptr va k 2) (.inr rfl) [(.int .i64 ((l.getD k Av.zero).kind)),(.int .i64 ((l.getD k Av.zero).arg))] agg55 rfl (fun wq9 hw9=>hl7 wq9 (Chg.of_ext [] (hE5.trans hw9))) rfl zN (r_allocA (z:=.agg #[.int .i64 0,.int .i64 0]) zr55 zN fun w8 hX8 hz8 hB8=>?_)
    have hzs8:w5.heap.size≤w8.heap.size:=hX8.size
    have hE8:Ext w w8:=hE5.trans hX8
    have hL5_0x8:=hL5_0.ext (oT) hX8
    replace hB8:BX w8.heap w5.heap.size [(.int .i64 0),(.int .i64 0)]:=hB8
    refine e_setA (vs:=[(.int .i64 ((l.getD k Av.zero).kind)),(.int .i64 ((l.getD k Av.zero).arg))]) agg55 rfl rfl (by intro u hu; simp only [List.mem_cons,List.not_mem_nil,or_false] at hu; rcases hu with rfl | rfl <;> first | exact ⟨rfl,rfl⟩) hB8 rfl rfl zN fun w9 hC9 hz9 hB9=>?_
    replace hB9:BX w9.heap w5.heap.size [(.int .i64 ((l.getD k Av.zero).kind)),(.int .i64 ((l.getD k Av.zero).arg))]:=hB9
    have hE9:Ext w w9:=hC9.below hE8 (fun c hc=>by have:=List.mem_singleton.1 hc; omega) hE8.size
    have hzs9:w8.heap.size≤w9.heap.size:=hC9.size
    have hF10:=hL5_0x8.chg (oT) hC9 (fun c hc=>by have:=List.mem_singleton.1 hc; omega)
    refine lw_nil (wp_seq (wp_plain _ [0,2,0,0,2,0,0] rfl ?_))
    have hav:=sch_get (sch_b (by assumption)) (i:=k) oM
    have hav2:=hav
    unfold avK at hav2
    refine q_fldP (p:=(.pointer (some ⟨w5.heap.size,0,none⟩))) (b:=w5.heap.size) (o:=0) 0 fd55_0 rfl rfl zN (q_load (p:=(padd (.pointer (some ⟨w5.heap.size,0,none⟩)) 0)) (.inr rfl) (.int .i64 ((l.getD k Av.zero).kind)) one2 rfl (hB9.ldp (i:=0) sM) zN (q_sub ((l.getD k Av.zero).kind - 1) rfl rfl (w64 oM oM) zN (q_fldP (p:=(.pointer (some ⟨w5.heap.size,0,none⟩))) (b:=w5.heap.size) (o:=0) 0 fd55_0 rfl rfl zN (q_load (p:=(padd (.pointer (some ⟨w5.heap.size,0,none⟩)) 0)) (.inr rfl) (.int .i64 ((l.getD k Av.zero).kind)) one2 rfl (hB9.ldp (i:=0) sM) zN (q_slS (s:=⟨#[97,115,108,114]⟩) (((l.getD k Av.zero).kind - 1).toNat) (((l.getD k Av.zero).kind).toNat) u9 rfl rfl rfl oM oM oM (by show _≤4; omega) zN ?_)))))
    rw [show ((((⟨#[97,115,108,114]⟩:ByteArray)).extract (((l.getD k Av.zero).kind - 1).toNat) (((l.getD k Av.zero).kind).toNat)):ByteArray) = ba [ltr (l.getD k Av.zero).kind] from ltr_s hav]
    refine lw_tvn 1 rfl (wp_seq (wp_seq (wp_plain _ [0,2,0] rfl (q_fldP (p:=(.pointer (some ⟨w5.heap.size,0,none⟩))) (b:=w5.heap.size) (o:=0) 0 fd55_0 rfl rfl zN (q_load (p:=(padd (.pointer (some ⟨w5.heap.size,0,none⟩)) 0)) (.inr rfl) (.int .i64 ((l.getD k Av.zero).kind)) one2 rfl (hB9.ldp (i:=0) sM) zN ?_)))))
    by_cases hc11:(l.getD k Av.zero).kind≠((4 :Nat):Int)
    ·
     refine q_neq true rfl rfl (decide_eq_true hc11) zN (lw_nil (c_cond_t rfl (wp_plain _ [0,0,2,3,0,0] rfl (lw_tv 1 rfl (q_fldP (p:=(.pointer (some ⟨w5.heap.size,0,none⟩))) (b:=w5.heap.size) (o:=0) 1 fd55_1 rfl rfl zN (q_load (p:=(padd (.pointer (some ⟨w5.heap.size,0,none⟩)) 1)) (.inr rfl) (.int .i64 ((l.getD k Av.zero).arg)) one2 rfl (hB9.ldp (i:=1) sM) zN (lw_call 43 [] [] [(.int .i64 ((l.getD k Av.zero).arg))] rfl rfl cf43 zN (c_impl_decimal _ ((l.getD k Av.zero).arg) hx7.2 (hG.ext hE9)) ?_)))))))
     rintro e12 w12 ⟨rfl,hX12⟩
     refine ⟨_,rfl,hX12,?_⟩
     have hzs12:w9.heap.size≤w12.heap.size:=hX12.size
     have hE12:Ext w w12:=hE9.trans hX12
     have hF10x12:=hF10.ext (oT) hX12
     have hB9x12:=hB9.ext hX12
     refine q_adds (a:=ba [ltr (l.getD k Av.zero).kind]) (b:=ba (Lib.itoa ((l.getD k Av.zero).arg))) rfl rfl (by rw [ba_size,ba_size,List.length_singleton]; have:=dg_len (n:=(l.getD k Av.zero).arg.toNat) oM; unfold Lib.itoa; rw [if_neg oM]; omega) zN (lw_tvn 1 rfl (wp_plain _ [0,0,3,4,0] rfl (lw_tv 2 rfl (r_one (u:=.string (ba [ltr (l.getD k Av.zero).kind]++ba (Lib.itoa ((l.getD k Av.zero).arg)))) (B:=w12.heap.size) (U:=w12.heap.size) good_rT u52 ti9 rfl rfl (frT (ba [ltr (l.getD k Av.zero).kind]++ba (Lib.itoa ((l.getD k Av.zero).arg)))) (Nat.le_refl _) zN fun v13 w13 hX13 hz13 hO13=>?_))))
     have hzs13:w12.heap.size≤w13.heap.size:=hX13.size
     have hE13:Ext w w13:=hE12.trans hX13
     have hF10x13:=hF10x12.ext (oT) hX13
     have hB9x13:=hB9x12.ext hX13
     refine e_appF good_rT (v:=vo) (a:=v13) u52 ti9 rfl rfl rfl hF10x13 oM hO13 oM oM (by simp; omega) (by simp; unfold maxLen; omega) zN fun v14 w14 F14 hC14 hF14 hO14=>?_
     have hzs14:w13.heap.size≤w14.heap.size:=hC14.size
     have hE14:Ext w w14:=hC14.below hE13 (fun c hc=>by have:=hF14 _ hc; omega) hE13.size
     have hF15:=hB9x13.chg hC14 (fun hm=>by have:=hF14 _ hm; omega)
     refine lw_tvn 1 rfl (wp_plain _ [0,0] rfl (q_add ((k + 1 :Nat):Int) rfl rfl (w64n oM sD) zN (lw_tvn 1 rfl ?_)))
     exact ⟨((k + 1),v14),_,rfl,⟨rfl,rfl,rfl,rfl,trivial⟩,⟨hE14,(by rw [tk_map (d:=Av.zero) oM]; have h:=hO14.up oT; first | rwa [wdB_4 oM] at h | rwa [wdB_n hav oM] at h),sD⟩,by first | omega | (dsimp only; omega)⟩
    ·
     refine q_neq false rfl rfl (decide_eq_false hc11) zN (lw_nil (c_cond_f rfl (wp_skip (wp_plain _ [0,0,3,4,0] rfl (lw_tv 2 rfl (r_one (u:=.string (ba [ltr (l.getD k Av.zero).kind])) (B:=w9.heap.size) (U:=w9.heap.size) good_rT u52 ti9 rfl rfl (frT (ba [ltr (l.getD k Av.zero).kind])) (Nat.le_refl _) zN fun v16 w16 hX16 hz16 hO16=>?_))))))
     have hzs16:w9.heap.size≤w16.heap.size:=hX16.size
     have hE16:Ext w w16:=hE9.trans hX16
     have hF10x16:=hF10.ext (oT) hX16
     have hB9x16:=hB9.ext hX16
     refine e_appF good_rT (v:=vo) (a:=v16) u52 ti9 rfl rfl rfl hF10x16 oM hO16 oM oM (by simp; omega) (by simp; unfold maxLen; omega) zN fun v17 w17 F17 hC17 hF17 hO17=>?_
     have hzs17:w16.heap.size≤w17.heap.size:=hC17.size
     have hE17:Ext w w17:=hC17.below hE16 (fun c hc=>by have:=hF17 _ hc; omega) hE16.size
     have hF18:=hB9x16.chg hC17 (fun hm=>by have:=hF17 _ hm; omega)
     refine lw_tvn 1 rfl (wp_plain _ [0,0] rfl (q_add ((k + 1 :Nat):Int) rfl rfl (w64n oM sD) zN (lw_tvn 1 rfl ?_)))
     exact ⟨((k + 1),v17),_,rfl,⟨rfl,rfl,rfl,rfl,trivial⟩,⟨hE17,(by rw [tk_map (d:=Av.zero) oM]; have h:=hO17.up oT; first | rwa [wdB_4 oM] at h | rwa [wdB_n hav oM] at h),sD⟩,by first | omega | (dsimp only; omega)⟩
   ·
    refine q_lss false rfl rfl (decide_eq_false hc6) zN (lw_nil (wp_seq (c_cond_f rfl (wp_exit (t_exit (t_exit (c_exit_here (wp_seq (wp_plain _ [0,3,0] rfl (lw_tv 1 rfl (lw_call 44 [] [] [vo,(.string (⟨#[32]⟩))] rfl rfl cf44 zN (c_join _ vo ((l.take k).map wdB) hL5_0 (by have:=(schB_iff.1 (sch_b (by assumption))).1; simp; omega) (by exact Nat.le_trans (sc_j (by assumption) oM) oM)) ?_)))))))))))
    rintro e19 w19 ⟨rfl,hX19⟩
    refine ⟨_,rfl,hX19,?_⟩
    have hzs19:w5.heap.size≤w19.heap.size:=hX19.size
    have hE19:Ext w w19:=hE5.trans hX19
    have hL5_0x19:=hL5_0.ext (oT) hX19
    exact lw_tvn 1 rfl (wp_ret (post_ret [2] rfl (.string (ba (jn (((l.take k).map wdB).map (·.data.toList))))) rfl (by first | exact ⟨ret_str (sc_bad (by assumption)),hE19⟩ | exact ⟨ret_str (sc_nil (by assumption) oM),hE19⟩ | exact ⟨ret_str (sc_end (by assumption) oM oM),hE19⟩)))
 ·
  exact c_cond_t (by first | rfl | (show Value.bool _ = _; rw [hb2])) (wp_seq (wp_plain _ [0] rfl (lw_tvn 1 rfl (wp_ret (b_ret (t_ret (post_ret [2] rfl (.string (⟨#[]⟩)) rfl z36_0)))))))
theorem c_spec_l06Word (w:World) (a:Av) (ha:i64 a.kind∧i64 a.arg) (hav:avK a) :
  Calls Tryd.prog 48 #[(.agg #[(.int .i64 a.kind),(.int .i64 a.arg)])] w (fun e w'=>e = .returned (.string (wdB a))∧Ext w w'):=by
 refine calls_mk [(.agg #[(.int .i64 a.kind),(.int .i64 a.arg)])] 19 Tryd.func48 rfl rfl sM ?_
 have hE0:Ext w w:=Ext.refl w
 have hav2:=hav
 unfold avK at hav2
 refine wp_seq (wp_plain _ [3,0] rfl (r_boxA (cs:=#[(.int .i64 a.kind),(.int .i64 a.arg)]) rfl zN fun w1 hX1 hz1 hB1=>?_))
 have hzs1:w.heap.size≤w1.heap.size:=hX1.size
 have hE1:Ext w w1:=hE0.trans hX1
 replace hB1:BX w1.heap w.heap.size [(.int .i64 a.kind),(.int .i64 a.arg)]:=hB1
 refine lw_tvn 1 rfl (wp_seq (wp_plain _ [0,2,0,2,0,0,0] rfl (q_fldP (p:=(.pointer (some ⟨w.heap.size,0,none⟩))) (b:=w.heap.size) (o:=0) 0 fd55_0 rfl rfl zN (q_load (p:=(padd (.pointer (some ⟨w.heap.size,0,none⟩)) 0)) (.inr rfl) (.int .i64 a.kind) one2 rfl (hB1.ldp (i:=0) sM) zN (q_fldP (p:=(.pointer (some ⟨w.heap.size,0,none⟩))) (b:=w.heap.size) (o:=0) 0 fd55_0 rfl rfl zN (q_load (p:=(padd (.pointer (some ⟨w.heap.size,0,none⟩)) 0)) (.inr rfl) (.int .i64 a.kind) one2 rfl (hB1.ldp (i:=0) sM) zN (q_add (a.kind + 1) rfl rfl (w64 oM oM) zN (q_slS (s:=⟨#[63,97,115,108,114]⟩) ((a.kind).toNat) ((a.kind + 1).toNat) u9 rfl rfl rfl oM oM oM (by show _≤5; omega) zN ?_))))))))
 rw [show ((((⟨#[63,97,115,108,114]⟩:ByteArray)).extract ((a.kind).toNat) ((a.kind + 1).toNat)):ByteArray) = ba [ltr a.kind] from ltr_q hav]
 refine lw_tvn 1 rfl (wp_seq (wp_seq (wp_plain _ [0,2,0] rfl (q_fldP (p:=(.pointer (some ⟨w.heap.size,0,none⟩))) (b:=w.heap.size) (o:=0) 0 fd55_0 rfl rfl zN (q_load (p:=(padd (.pointer (some ⟨w.heap.size,0,none⟩)) 0)) (.inr rfl) (.int .i64 a.kind) one2 rfl (hB1.ldp (i:=0) sM) zN ?_)))))
 by_cases hc2:a.kind≠((4 :Nat):Int)
 ·
  refine q_neq true rfl rfl (decide_eq_true hc2) zN (lw_nil (c_cond_t rfl (wp_plain _ [0,0,2,3,0,0] rfl (lw_tv 1 rfl (q_fldP (p:=(.pointer (some ⟨w.heap.size,0,none⟩))) (b:=w.heap.size) (o:=0) 1 fd55_1 rfl rfl zN (q_load (p:=(padd (.pointer (some ⟨w.heap.size,0,none⟩)) 1)) (.inr rfl) (.int .i64 a.arg) one2 rfl (hB1.ldp (i:=1) sM) zN (lw_call 61 [] [] [(.int .i64 a.arg)] rfl rfl cf61 zN (c_DecimalA _ (a.arg) oM oM) ?_)))))))
  rintro e3 w3 ⟨_,rfl,hX3,rfl⟩
  refine ⟨_,rfl,hX3,?_⟩
  have hzs3:w1.heap.size≤w3.heap.size:=hX3.size
  have hE3:Ext w w3:=hE1.trans hX3
  exact q_adds (a:=ba [ltr a.kind]) (b:=decB (a.arg).toNat) rfl rfl (by rw [ba_size,List.length_singleton]; have:=decB_size (n:=a.arg.toNat) oM; omega) zN (lw_tvn 1 rfl (wp_seq (wp_plain _ [0,0] rfl (lw_tvn 2 rfl (wp_ret (post_ret [2] rfl (.string (ba [ltr a.kind]++decB (a.arg).toNat)) rfl (by first | exact ⟨ret_str (wdB_4 oM),hE3⟩ | exact ⟨ret_str (wdB_d oM),hE3⟩)))))))
 ·
  exact q_neq false rfl rfl (decide_eq_false hc2) zN (lw_nil (c_cond_f rfl (wp_skip (wp_seq (wp_plain _ [0,0] rfl (lw_tvn 2 rfl (wp_ret (post_ret [2] rfl (.string (ba [ltr a.kind])) rfl (by first | exact ⟨ret_str (wdB_4 oM),hE1⟩ | exact ⟨ret_str (wdB_d oM),hE1⟩)))))))))
theorem z32_0 {p:Prop} (h:p:=by first | exact ⟨ret_str (sc_bad (by assumption)),hE1⟩ | exact ⟨ret_str (sc_nil (by assumption) oM),hE1⟩ | exact ⟨ret_str (jT_e (by assumption) oM oM hq),hE1⟩):p:=h
theorem z32_1 {p:Prop} (h:p:=by first | omega | (rw [ByteArray.size_append]; show _ + 1 + _≤_; omega)):p:=h
theorem c_spec_ScheduleText (w:World) (va:Value) (l:List Av) (hl:RN [] (rdS 2 rAv) w.heap va l) (hll:l.length≤1000000000) :
  Calls Tryd.prog 32 #[va] w (fun e w'=>e = .returned (.string (ba (scL l)))∧Ext w w'):=by
 refine calls_mk [va] 29 Tryd.func32 rfl rfl sM ?_
 have hE0:Ext w w:=Ext.refl w
 refine wp_seq (wp_plain _ [0] rfl (lw_tvn 1 rfl (wp_seq (wp_seq (wp_plain _ [0,3,0] rfl (lw_tv 1 rfl (lw_call 47 [] [] [va] rfl rfl cf47 zN (c_spec_l06Schedule _ va l (hl.ext (good_rdS good_rAv) hE0) oM) ?_)))))))
 rintro e1 w1 ⟨rfl,hX1⟩
 refine ⟨_,rfl,hX1,?_⟩
 have hzs1:w.heap.size≤w1.heap.size:=hX1.size
 have hE1:Ext w w1:=hE0.trans hX1
 refine q_not (!(schB l)) rfl rfl zN (lw_nil ?_)
 cases hb2:(!(schB l))
 ·
  refine c_cond_f (by first | rfl | (show Value.bool _ = _; rw [hb2])) (wp_skip (wp_seq (wp_seq (wp_plain _ [0,0,0] rfl (lw_tv 1 rfl (q_len (v:=va) u34 rfl hl.isSl zN ?_))))))
  by_cases hc3:((l.length :Nat):Int) = ((0 :Nat):Int)
  ·
   exact q_eql true rfl rfl (decide_eq_true hc3) zN (lw_nil (c_cond_t rfl (wp_seq (wp_plain _ [0] rfl (lw_tvn 1 rfl (wp_ret (t_ret (post_ret [2] rfl (.string (⟨#[45]⟩)) rfl z32_0))))))))
  ·
   refine q_eql false rfl rfl (decide_eq_false hc3) zN (lw_nil (c_cond_f rfl (wp_skip (wp_seq (wp_plain _ [0] rfl (lw_tvn 1 rfl (wp_seq (wp_seq (wp_plain _ [0] rfl (lw_tvn 1 rfl (wp_block ?_)))))))))))
   refine c_loop (S:=Nat × ByteArray) (fun (⟨i,o⟩:Nat × ByteArray)=>([(3,(.string o)),(4,(.int .i64 ((i :Nat):Int))),(0,va)]:List (Nat × Value))) (fun (⟨i,o⟩:Nat × ByteArray) (W:World)=>Ext w W∧i≤l.length∧o = ba (jn ((l.take i).map wdL))) (fun (⟨i,o⟩:Nat × ByteArray)=>l.length - i) (0,(⟨#[]⟩)) ⟨rfl,rfl,rfl,trivial⟩ ⟨hE1,sD,(by rfl)⟩ ?_
   clear hE0 hX1 hzs1 hE1
   rintro ⟨i,o⟩ ρ4 w4 ⟨hE4,hp4_0,hq⟩
   have hzs4:w.heap.size≤w4.heap.size:=hE4.size
   refine wp_seq (wp_seq (wp_plain _ [0,0,0,0] rfl (lw_tv 2 rfl (q_len (v:=va) u34 rfl hl.isSl zN ?_))))
   by_cases hc5:((i :Nat):Int) < ((l.length :Nat):Int)
   ·
    refine q_lss true rfl rfl (decide_eq_true hc5) zN (lw_nil (c_cond_t rfl (wp_skip (wp_seq (wp_block (wp_seq (wp_seq (wp_plain _ [0,0] rfl ?_))))))))
    have hos:=jT_len (by assumption) hq
    refine lw_tv 1 rfl ?_
    by_cases hc6:((0 :Nat):Int) < ((i :Nat):Int)
    ·
     refine q_gtr true rfl rfl (decide_eq_true hc6) zN (lw_nil (c_cond_t rfl (wp_plain _ [0,0,0] rfl (lw_tv 1 rfl (q_adds (a:=o) (b:=⟨#[32]⟩) rfl rfl (by show _ + 1≤_; omega) zN (lw_tvn 1 rfl (wp_plain _ [0,0,0,0,2,3,0,0] rfl ?_)))))))
     have hav:=sch_get (sch_b (by assumption)) (i:=i) oM
     have hws:=wdB_size hav
     refine lw_tv 3 rfl (q_idx (v:=va) i u34 tiS55 rfl rfl hl.isSl rfl sD zN ?_)
     obtain ⟨cs7,hr7,hl7⟩:=hl.get good_rAv Av.zero (k:=i) sD
     obtain ⟨rfl,hx7⟩:=rn_av hr7
     refine q_loadA (p:=eptr va i 2) (.inr rfl) [(.int .i64 ((l.getD i Av.zero).kind)),(.int .i64 ((l.getD i Av.zero).arg))] agg55 rfl (fun wq9 hw9=>hl7 wq9 (Chg.of_ext [] (hE4.trans hw9))) rfl zN (lw_call 48 [] [] [(.agg #[(.int .i64 ((l.getD i Av.zero).kind)),(.int .i64 ((l.getD i Av.zero).arg))])] rfl rfl cf48 zN (c_spec_l06Word _ (l.getD i Av.zero) ⟨hx7.1,hx7.2⟩ (by exact hav)) ?_)
     rintro e8 w8 ⟨rfl,hX8⟩
     refine ⟨_,rfl,hX8,?_⟩
     have hzs8:w4.heap.size≤w8.heap.size:=hX8.size
     have hE8:Ext w w8:=hE4.trans hX8
     refine q_adds (a:=(o++⟨#[32]⟩)) (b:=wdB (l.getD i Av.zero)) rfl rfl z32_1 zN (lw_tvn 1 rfl (wp_plain _ [0,0,0] rfl (lw_tv 1 rfl (q_add ((i + 1 :Nat):Int) rfl rfl (w64n oM sD) zN (lw_tvn 1 rfl ?_)))))
     exact ⟨((i + 1),((o++⟨#[32]⟩)++wdB (l.getD i Av.zero))),_,rfl,⟨rfl,rfl,rfl,trivial⟩,⟨hE8,sD,(by first | exact jT_0 oM oM hq | exact jT_s oM oM hq)⟩,by first | omega | (dsimp only; omega)⟩
    ·
     refine q_gtr false rfl rfl (decide_eq_false hc6) zN (lw_nil (c_cond_f rfl (wp_skip (wp_plain _ [0,0,0,0,2,3,0,0] rfl ?_))))
     have hav:=sch_get (sch_b (by assumption)) (i:=i) oM
     have hws:=wdB_size hav
     refine lw_tv 3 rfl (q_idx (v:=va) i u34 tiS55 rfl rfl hl.isSl rfl sD zN ?_)
     obtain ⟨cs9,hr9,hl9⟩:=hl.get good_rAv Av.zero (k:=i) sD
     obtain ⟨rfl,hx9⟩:=rn_av hr9
     refine q_loadA (p:=eptr va i 2) (.inr rfl) [(.int .i64 ((l.getD i Av.zero).kind)),(.int .i64 ((l.getD i Av.zero).arg))] agg55 rfl (fun wq9 hw9=>hl9 wq9 (Chg.of_ext [] (hE4.trans hw9))) rfl zN (lw_call 48 [] [] [(.agg #[(.int .i64 ((l.getD i Av.zero).kind)),(.int .i64 ((l.getD i Av.zero).arg))])] rfl rfl cf48 zN (c_spec_l06Word _ (l.getD i Av.zero) ⟨hx9.1,hx9.2⟩ (by exact hav)) ?_)
     rintro e10 w10 ⟨rfl,hX10⟩
     refine ⟨_,rfl,hX10,?_⟩
     have hzs10:w4.heap.size≤w10.heap.size:=hX10.size
     have hE10:Ext w w10:=hE4.trans hX10
     refine q_adds (a:=o) (b:=wdB (l.getD i Av.zero)) rfl rfl z32_1 zN (lw_tvn 1 rfl (wp_plain _ [0,0,0] rfl (lw_tv 1 rfl (q_add ((i + 1 :Nat):Int) rfl rfl (w64n oM sD) zN (lw_tvn 1 rfl ?_)))))
     exact ⟨((i + 1),(o++wdB (l.getD i Av.zero))),_,rfl,⟨rfl,rfl,rfl,trivial⟩,⟨hE10,sD,(by first | exact jT_0 oM oM hq | exact jT_s oM oM hq)⟩,by first | omega | (dsimp only; omega)⟩
   ·
    exact q_lss false rfl rfl (decide_eq_false hc5) zN (lw_nil (c_cond_f rfl (wp_exit (t_exit (t_exit (c_exit_here (wp_seq (wp_plain _ [0,0] rfl (lw_tvn 2 rfl (wp_ret (post_ret [2] rfl (.string o) rfl (by first | exact ⟨ret_str (sc_bad (by assumption)),hE4⟩ | exact ⟨ret_str (sc_nil (by assumption) oM),hE4⟩ | exact ⟨ret_str (jT_e (by assumption) oM oM hq),hE4⟩))))))))))))
 ·
  exact c_cond_t (by first | rfl | (show Value.bool _ = _; rw [hb2])) (wp_seq (wp_plain _ [0] rfl (lw_tvn 1 rfl (wp_ret (t_ret (post_ret [2] rfl (.string (⟨#[]⟩)) rfl z32_0))))))
theorem z45_0 {p:Prop} (h:p:=by first | exact ⟨rd_no (okD_0 oM),hE0⟩ | exact ⟨rd_no (okD_9 oM),hE0⟩ | exact ⟨rd_no (okD_z oM oM),hE0⟩ | exact ⟨rd_no (okD_c (i:=i) oM oM),hE0⟩ | exact ⟨okD_y oM oM oM oM hd hq,hE0⟩):p:=h
theorem z45_1 {p:Prop} (h:p:=by first | exact ⟨rd_no (okD_0 oM),hE5⟩ | exact ⟨rd_no (okD_9 oM),hE5⟩ | exact ⟨rd_no (okD_z oM oM),hE5⟩ | exact ⟨rd_no (okD_c (i:=i) oM oM),hE5⟩ | exact ⟨okD_y oM oM oM oM hd hq,hE5⟩):p:=h
theorem z45_2 {p:Prop} (h:p:=by first | exact ⟨rd_no (okD_0 oM),hE9⟩ | exact ⟨rd_no (okD_9 oM),hE9⟩ | exact ⟨rd_no (okD_z oM oM),hE9⟩ | exact ⟨rd_no (okD_c (i:=i) oM oM),hE9⟩ | exact ⟨okD_y oM oM oM oM hd hq,hE9⟩):p:=h
theorem z45_3 {p:Prop} (h:p:=by intro j hj; exact (Nat.lt_succ_iff_lt_or_eq.1 hj).elim (hd j) fun h9=>by subst h9; omega):p:=h
theorem c_spec_ReadDecimal (w:World) (s:ByteArray)   :
  Calls Tryd.prog 45 #[.string s] w (fun e w'=>e = .returned (.tuple #[.int .i64 (rdD s.data.toList),.bool (okD s.data.toList)])∧Ext w w'):=by
 refine calls_mk [.string s] 49 Tryd.func45 rfl rfl sM ?_
 have hE0:Ext w w:=Ext.refl w
 refine wp_seq (wp_plain _ [0,0] rfl (lw_tvn 2 rfl (wp_seq (wp_seq (wp_plain _ [0,0,0,0,0,0,0,0,0,0,0,0,0,0,0,0,0,0] rfl (lw_tv 1 rfl (q_lens (s:=s) u9 rfl zN ?_)))))))
 by_cases hc1:((s.size :Nat):Int) = ((0 :Nat):Int)
 ·
  exact q_eql true rfl rfl (decide_eq_true hc1) zN (lw_tvn 15 rfl (c_cond_t rfl (wp_seq (wp_plain _ [0,0] rfl (lw_tvn 2 rfl (wp_ret (t_ret (post_ret [2,3] rfl (.tuple #[(.int .i64 ((0 :Nat):Int)),(.bool false)]) rfl z45_0))))))))
 ·
  refine q_eql false rfl rfl (decide_eq_false hc1) zN (lw_tv 2 rfl (q_lens (s:=s) u9 rfl (zS (e:=9) rfl rfl rfl) ?_))
  by_cases hc2:((9 :Nat):Int) < ((s.size :Nat):Int)
  ·
   exact q_gtr true rfl rfl (decide_eq_true hc2) (zS (e:=9) rfl rfl rfl) (lw_tvn 11 rfl (c_cond_t rfl (wp_seq (wp_plain _ [0,0] rfl (lw_tvn 2 rfl (wp_ret (t_ret (post_ret [2,3] rfl (.tuple #[(.int .i64 ((0 :Nat):Int)),(.bool false)]) rfl z45_0))))))))
  ·
   refine q_gtr false rfl rfl (decide_eq_false hc2) (zS (e:=9) rfl rfl rfl) (lw_tv 3 rfl (q_lens (s:=s) u9 rfl (zS (e:=14) rfl rfl rfl) ?_))
   by_cases hc3:((1 :Nat):Int) < ((s.size :Nat):Int)
   ·
    refine q_gtr true rfl rfl (decide_eq_true hc3) (zS (e:=14) rfl rfl rfl) (lw_tv 2 rfl (q_index (s:=s) 0 u9 rfl rfl rfl sD (zS (e:=18) rfl rfl rfl) ?_))
    by_cases hc4:((sAt s 0 :Nat):Int) = 48
    ·
     exact q_eql true rfl rfl (decide_eq_true hc4) (zS (e:=18) rfl rfl rfl) (lw_tvn 2 rfl (c_cond_t rfl (wp_seq (wp_plain _ [0,0] rfl (lw_tvn 2 rfl (wp_ret (t_ret (post_ret [2,3] rfl (.tuple #[(.int .i64 ((0 :Nat):Int)),(.bool false)]) rfl z45_0))))))))
    ·
     refine q_eql false rfl rfl (decide_eq_false hc4) (zS (e:=18) rfl rfl rfl) (lw_tvn 2 rfl (c_cond_f rfl (wp_skip (wp_seq (wp_plain _ [0] rfl (lw_tvn 1 rfl (wp_seq (wp_seq (wp_plain _ [0] rfl (lw_tvn 1 rfl (wp_block ?_)))))))))))
     refine c_loop (S:=Nat × Nat) (fun (⟨i,n⟩:Nat × Nat)=>([(4,(.int .i64 ((n :Nat):Int))),(5,(.int .i64 ((i :Nat):Int))),(0,(.string s))]:List (Nat × Value))) (fun (⟨i,n⟩:Nat × Nat) (W:World)=>Ext w W∧i≤s.size∧n = vD (s.data.toList.take i)∧(∀ j,j < i→48≤sAt s j∧sAt s j≤57)) (fun (⟨i,n⟩:Nat × Nat)=>s.size - i) (0,0) ⟨rfl,rfl,rfl,trivial⟩ ⟨hE0,sD,(by rfl),(by intro j hj; omega)⟩ ?_
     clear hE0
     rintro ⟨i,n⟩ ρ5 w5 ⟨hE5,hp5_0,hq,hd⟩
     have hzs5:w.heap.size≤w5.heap.size:=hE5.size
     refine wp_seq (wp_seq (wp_plain _ [0,0,0,0] rfl (lw_tv 2 rfl (q_lens (s:=s) u9 rfl zN ?_))))
     by_cases hc6:((i :Nat):Int) < ((s.size :Nat):Int)
     ·
      refine q_lss true rfl rfl (decide_eq_true hc6) zN (lw_nil (c_cond_t rfl (wp_skip (wp_seq (wp_block (wp_seq (wp_seq (wp_plain _ [0,0,0,0,0,0,0,0,0,0] rfl ?_))))))))
      have hsa:=sAt_lt s i
      refine lw_tv 2 rfl (q_index (s:=s) i u9 rfl rfl rfl sD zN ?_)
      by_cases hc7:((sAt s i :Nat):Int) < 48
      ·
       exact q_lss true rfl rfl (decide_eq_true hc7) zN (lw_tvn 6 rfl (c_cond_t rfl (wp_seq (wp_plain _ [0,0] rfl (lw_tvn 2 rfl (wp_ret (t_ret (b_ret (t_ret (t_ret (b_ret (t_ret (post_ret [2,3] rfl (.tuple #[(.int .i64 ((0 :Nat):Int)),(.bool false)]) rfl z45_1)))))))))))))
      ·
       refine q_lss false rfl rfl (decide_eq_false hc7) zN (lw_tv 3 rfl (q_index (s:=s) i u9 rfl rfl rfl sD (zS (e:=34) rfl rfl rfl) ?_))
       by_cases hc8:57 < ((sAt s i :Nat):Int)
       ·
        exact q_gtr true rfl rfl (decide_eq_true hc8) (zS (e:=34) rfl rfl rfl) (lw_tvn 1 rfl (c_cond_t rfl (wp_seq (wp_plain _ [0,0] rfl (lw_tvn 2 rfl (wp_ret (t_ret (b_ret (t_ret (t_ret (b_ret (t_ret (post_ret [2,3] rfl (.tuple #[(.int .i64 ((0 :Nat):Int)),(.bool false)]) rfl z45_1)))))))))))))
       ·
        refine q_gtr false rfl rfl (decide_eq_false hc8) (zS (e:=34) rfl rfl rfl) (lw_tvn 1 rfl (c_cond_f rfl (wp_skip (wp_plain _ [0,0,0,0,0,0,0,0,0] rfl ?_))))
        have hn9:=vD_tk oM oM hd hq
        refine lw_tv 1 rfl (q_mul ((10 * n :Nat):Int) rfl rfl (w64n oM oM) zN (lw_tv 2 rfl (q_index (s:=s) i u9 rfl rfl rfl sD zN (q_sub ((sAt s i - 48 :Nat):Int) rfl rfl (u8_sub oM oM) zN (q_conv ((sAt s i - 48 :Nat):Int) u5 u2 rfl (w64 oM oM) zN (q_add ((10 * n + (sAt s i - 48) :Nat):Int) rfl rfl (w64n oM oM) zN (lw_tvn 1 rfl (wp_plain _ [0,0,0] rfl ?_))))))))
        refine lw_tv 1 rfl (q_add ((i + 1 :Nat):Int) rfl rfl (w64n oM sD) zN (lw_tvn 1 rfl ?_))
        exact ⟨((i + 1),(10 * n + (sAt s i - 48))),_,rfl,⟨rfl,rfl,rfl,trivial⟩,⟨hE5,sD,(by exact vD_st oM hq),z45_3⟩,by first | omega | (dsimp only; omega)⟩
     ·
      exact q_lss false rfl rfl (decide_eq_false hc6) zN (lw_nil (c_cond_f rfl (wp_exit (t_exit (t_exit (c_exit_here (wp_seq (wp_plain _ [0,0,0] rfl (lw_tvn 3 rfl (wp_ret (post_ret [2,3] rfl (.tuple #[(.int .i64 ((n :Nat):Int)),(.bool true)]) rfl z45_1)))))))))))
   ·
    refine q_gtr false rfl rfl (decide_eq_false hc3) (zS (e:=14) rfl rfl rfl) (lw_tvn 6 rfl (c_cond_f rfl (wp_skip (wp_seq (wp_plain _ [0] rfl (lw_tvn 1 rfl (wp_seq (wp_seq (wp_plain _ [0] rfl (lw_tvn 1 rfl (wp_block ?_)))))))))))
    refine c_loop (S:=Nat × Nat) (fun (⟨i,n⟩:Nat × Nat)=>([(4,(.int .i64 ((n :Nat):Int))),(5,(.int .i64 ((i :Nat):Int))),(0,(.string s))]:List (Nat × Value))) (fun (⟨i,n⟩:Nat × Nat) (W:World)=>Ext w W∧i≤s.size∧n = vD (s.data.toList.take i)∧(∀ j,j < i→48≤sAt s j∧sAt s j≤57)) (fun (⟨i,n⟩:Nat × Nat)=>s.size - i) (0,0) ⟨rfl,rfl,rfl,trivial⟩ ⟨hE0,sD,(by rfl),(by intro j hj; omega)⟩ ?_
    clear hE0
    rintro ⟨i,n⟩ ρ9 w9 ⟨hE9,hp9_0,hq,hd⟩
    have hzs9:w.heap.size≤w9.heap.size:=hE9.size
    refine wp_seq (wp_seq (wp_plain _ [0,0,0,0] rfl (lw_tv 2 rfl (q_lens (s:=s) u9 rfl zN ?_))))
    by_cases hc10:((i :Nat):Int) < ((s.size :Nat):Int)
    ·
     refine q_lss true rfl rfl (decide_eq_true hc10) zN (lw_nil (c_cond_t rfl (wp_skip (wp_seq (wp_block (wp_seq (wp_seq (wp_plain _ [0,0,0,0,0,0,0,0,0,0] rfl ?_))))))))
     have hsa:=sAt_lt s i
     refine lw_tv 2 rfl (q_index (s:=s) i u9 rfl rfl rfl sD zN ?_)
     by_cases hc11:((sAt s i :Nat):Int) < 48
     ·
      exact q_lss true rfl rfl (decide_eq_true hc11) zN (lw_tvn 6 rfl (c_cond_t rfl (wp_seq (wp_plain _ [0,0] rfl (lw_tvn 2 rfl (wp_ret (t_ret (b_ret (t_ret (t_ret (b_ret (t_ret (post_ret [2,3] rfl (.tuple #[(.int .i64 ((0 :Nat):Int)),(.bool false)]) rfl z45_2)))))))))))))
     ·
      refine q_lss false rfl rfl (decide_eq_false hc11) zN (lw_tv 3 rfl (q_index (s:=s) i u9 rfl rfl rfl sD (zS (e:=34) rfl rfl rfl) ?_))
      by_cases hc12:57 < ((sAt s i :Nat):Int)
      ·
       exact q_gtr true rfl rfl (decide_eq_true hc12) (zS (e:=34) rfl rfl rfl) (lw_tvn 1 rfl (c_cond_t rfl (wp_seq (wp_plain _ [0,0] rfl (lw_tvn 2 rfl (wp_ret (t_ret (b_ret (t_ret (t_ret (b_ret (t_ret (post_ret [2,3] rfl (.tuple #[(.int .i64 ((0 :Nat):Int)),(.bool false)]) rfl z45_2)))))))))))))
      ·
       refine q_gtr false rfl rfl (decide_eq_false hc12) (zS (e:=34) rfl rfl rfl) (lw_tvn 1 rfl (c_cond_f rfl (wp_skip (wp_plain _ [0,0,0,0,0,0,0,0,0] rfl ?_))))
       have hn9:=vD_tk oM oM hd hq
       refine lw_tv 1 rfl (q_mul ((10 * n :Nat):Int) rfl rfl (w64n oM oM) zN (lw_tv 2 rfl (q_index (s:=s) i u9 rfl rfl rfl sD zN (q_sub ((sAt s i - 48 :Nat):Int) rfl rfl (u8_sub oM oM) zN (q_conv ((sAt s i - 48 :Nat):Int) u5 u2 rfl (w64 oM oM) zN (q_add ((10 * n + (sAt s i - 48) :Nat):Int) rfl rfl (w64n oM oM) zN (lw_tvn 1 rfl (wp_plain _ [0,0,0] rfl ?_))))))))
       refine lw_tv 1 rfl (q_add ((i + 1 :Nat):Int) rfl rfl (w64n oM sD) zN (lw_tvn 1 rfl ?_))
       exact ⟨((i + 1),(10 * n + (sAt s i - 48))),_,rfl,⟨rfl,rfl,rfl,trivial⟩,⟨hE9,sD,(by exact vD_st oM hq),z45_3⟩,by first | omega | (dsimp only; omega)⟩
    ·
     exact q_lss false rfl rfl (decide_eq_false hc10) zN (lw_nil (c_cond_f rfl (wp_exit (t_exit (t_exit (c_exit_here (wp_seq (wp_plain _ [0,0,0] rfl (lw_tvn 3 rfl (wp_ret (post_ret [2,3] rfl (.tuple #[(.int .i64 ((n :Nat):Int)),(.bool true)]) rfl z45_2)))))))))))
theorem z31_0 {p:Prop} (h:p:=by intro u hu; simp only [List.mem_cons,List.not_mem_nil,or_false] at hu; rcases hu with rfl | rfl <;> first | exact ⟨rfl,rfl⟩):p:=h
theorem c_spec_l06ReadWord (w:World) (s:ByteArray)   :
  Calls Tryd.prog 31 #[.string s] w (fun e w'=>∃ a:Av,e = .returned (.tuple #[.agg #[.int .i64 a.kind,.int .i64 a.arg],.bool (rwO s.data.toList)])∧Ext w w'∧(i64 a.kind∧i64 a.arg)∧(rwO s.data.toList = true→a = rdB s)):=by
 refine calls_mk [.string s] 40 Tryd.func31 rfl rfl sM ?_
 have hE0:Ext w w:=Ext.refl w
 refine wp_seq (wp_plain _ [3,0] rfl (r_allocA (z:=.agg #[.int .i64 0,.int .i64 0]) zr55 zN fun w1 hX1 hz1 hB1=>?_))
 have hzs1:w.heap.size≤w1.heap.size:=hX1.size
 have hE1:Ext w w1:=hE0.trans hX1
 replace hB1:BX w1.heap w.heap.size [(.int .i64 0),(.int .i64 0)]:=hB1
 refine lw_tvn 1 rfl (wp_seq (wp_seq (wp_plain _ [0,0] rfl (lw_tv 1 rfl ?_))))
 cases hc2:strE s (⟨#[114]⟩)
 ·
  refine q_eqls false u9 rfl rfl hc2 zN (lw_nil (c_cond_f rfl (wp_skip (wp_seq (wp_seq (wp_plain _ [0,0,0] rfl (lw_tv 1 rfl (q_lens (s:=s) u9 rfl zN ?_))))))))
  by_cases hc3:((s.size :Nat):Int) < ((2 :Nat):Int)
  ·
   refine q_lss true rfl rfl (decide_eq_true hc3) zN (lw_nil (c_cond_t rfl (wp_seq (wp_plain _ [0,4,0] rfl ?_))))
   have hbd4:∀ (wq:World),(Instr.build 55 #[]).run Tryd.prog wq = .ok (.agg #[(.int .i64 0),(.int .i64 0)]) wq:=by intro wq; kernel_rfl
   refine q_build (ps:=#[]) (.agg #[(.int .i64 0),(.int .i64 0)]) (by simp only [List.map_toArray,List.map_cons,List.map_nil]) (fun wq=>hbd4  wq) zN (e_setA (vs:=[(.int .i64 0),(.int .i64 0)]) agg55 rfl rfl z31_0 hB1 rfl rfl zN fun w5 hC5 hz5 hB5=>?_)
   replace hB5:BX w5.heap w.heap.size [(.int .i64 0),(.int .i64 0)]:=hB5
   have hE5:Ext w w5:=hC5.below hE1 (fun c hc=>by have:=List.mem_singleton.1 hc; omega) hE1.size
   have hzs5:w1.heap.size≤w5.heap.size:=hC5.size
   exact lw_tvn 1 rfl (wp_ret (t_ret (post_retC (k:=2) (t0:=3) (ts:=[]) (cs:=[(.int .i64 0),(.int .i64 0)]) [(.bool false)] rfl agg55 rfl hB5 rfl rfl (by first | exact rw_ret (a:=⟨0,0⟩) hE5 (by decide) (rw_1 (by assumption)).1 (fun _=>(rw_1 (by assumption)).2) | exact rw_ret (a:=⟨0,0⟩) hE5 (by decide) (rw_2 (by assumption) oM) (fun h=>by cases h) | exact rw_ret (a:=⟨0,0⟩) hE5 ⟨⟨by dsimp only; omega,by dsimp only; omega⟩,hrd⟩ (rw_3f oM (by assumption)) (fun h=>by cases h) | exact rw_ret (a:=⟨0,0⟩) hE5 ⟨⟨by dsimp only; omega,by dsimp only; omega⟩,hrd⟩ (rw_3t oM (by assumption) hq oM).1 (rw_3t oM (by assumption) hq oM).2))))
  ·
   refine q_lss false rfl rfl (decide_eq_false hc3) zN (lw_nil (c_cond_f rfl (wp_skip (wp_seq (wp_plain _ [0,0,3,0,0,0,0,0] rfl (lw_tv 1 rfl (q_slT (s:=s) 1 u9 rfl rfl rfl oM zN (lw_call 45 [] [] [(.string (s.extract 1 s.size))] rfl rfl cf45 zN (c_spec_ReadDecimal _ ((s.extract 1 s.size))) ?_))))))))
   rintro e6 w6 ⟨rfl,hX6⟩
   refine ⟨_,rfl,hX6,?_⟩
   have hzs6:w1.heap.size≤w6.heap.size:=hX6.size
   have hE6:Ext w w6:=hE1.trans hX6
   have hB1x6:=hB1.ext hX6
   refine lw_tv 1 rfl (q_extract (vs:=[(.int .i64 (rdD ((s.extract 1 s.size)).data.toList)),(.bool (okD ((s.extract 1 s.size)).data.toList))]) (.int .i64 (rdD ((s.extract 1 s.size)).data.toList)) rfl rfl zN (q_extract (vs:=[(.int .i64 (rdD ((s.extract 1 s.size)).data.toList)),(.bool (okD ((s.extract 1 s.size)).data.toList))]) (.bool (okD ((s.extract 1 s.size)).data.toList)) rfl rfl zN (lw_tvn 2 rfl (wp_seq (wp_plain _ [0,0,3,4] rfl (lw_tv 1 rfl ?_))))))
   have hbd7:∀ (wq:World),(Instr.build 55 #[(1,(.int .i64 (rdD ((s.extract 1 s.size)).data.toList)))]).run Tryd.prog wq = .ok (.agg #[(.int .i64 0),(.int .i64 (rdD ((s.extract 1 s.size)).data.toList))]) wq:=by intro wq; kernel_rfl
   refine q_build (ps:=#[(1,(.int .i64 (rdD ((s.extract 1 s.size)).data.toList)))]) (.agg #[(.int .i64 0),(.int .i64 (rdD ((s.extract 1 s.size)).data.toList))]) (by simp only [List.map_toArray,List.map_cons,List.map_nil]; rfl) (fun wq=>hbd7  wq) zN ?_
   have hq9:=hB1x6.lt
   refine r_allocA (z:=.agg #[.int .i64 0,.int .i64 0]) zr55 zN fun w8 hX8 hz8 hB8=>?_
   have hzs8:w6.heap.size≤w8.heap.size:=hX8.size
   have hE8:Ext w w8:=hE6.trans hX8
   have hB1x8:=hB1x6.ext hX8
   replace hB8:BX w8.heap w6.heap.size [(.int .i64 0),(.int .i64 0)]:=hB8
   refine e_setA (vs:=[(.int .i64 0),(.int .i64 (rdD ((s.extract 1 s.size)).data.toList))]) agg55 rfl rfl z31_0 hB8 rfl rfl zN fun w10 hC10 hz10 hB10=>?_
   replace hB10:BX w10.heap w6.heap.size [(.int .i64 0),(.int .i64 (rdD ((s.extract 1 s.size)).data.toList))]:=hB10
   have hE10:Ext w w10:=hC10.below hE8 (fun c hc=>by have:=List.mem_singleton.1 hc; omega) hE8.size
   have hzs10:w8.heap.size≤w10.heap.size:=hC10.size
   have hF11:=hB1x8.chg hC10 (fun hm=>by have:=List.mem_singleton.1 hm; omega)
   refine lw_nil (wp_seq (wp_seq (wp_plain _ [0] rfl (lw_tvn 1 rfl (wp_block (c_loop (S:=Nat × Int) (fun (⟨k,kq⟩:Nat × Int)=>([(7,(.int .i64 ((k :Nat):Int))),(0,(.string s)),(2,(.pointer (some ⟨w.heap.size,0,none⟩))),(5,(.bool (okD ((s.extract 1 s.size)).data.toList))),(6,(.pointer (some ⟨w6.heap.size,0,none⟩)))]:List (Nat × Value))) (fun (⟨k,kq⟩:Nat × Int) (W:World)=>Ext w W∧BX W.heap w.heap.size [(.int .i64 0),(.int .i64 0)]∧BX W.heap w6.heap.size [(.int .i64 kq),(.int .i64 (rdD ((s.extract 1 s.size)).data.toList))]∧(1≤k∧k≤4)∧kq = kdK (sAt s 0) k∧(0≤kq∧kq≤3)) (fun (⟨k,kq⟩:Nat × Int)=>4 - k) (1,0) ⟨rfl,rfl,rfl,rfl,rfl,trivial⟩ ⟨hE10,hF11,hB10,oM,(by unfold kdK; simp),oM⟩ ?_))))))
   clear hE0 hz1 hX1 hzs1 hE1 hX6 hzs6 hE6 hz8 hX8 hzs8 hE8 hz10 hC10 hE10 hzs10 hF11
   rintro ⟨k,kq⟩ ρ12 w12 ⟨hE12,hL12_0,hL12_1,hp12_0,hq,hk3⟩
   have hzs12:w.heap.size≤w12.heap.size:=hE12.size
   have hq13:=hL12_0.lt
   have hq14:=hL12_1.lt
   refine wp_seq (wp_seq (wp_plain _ [0,0] rfl (lw_tv 1 rfl ?_)))
   by_cases hc15:((k :Nat):Int) < ((4 :Nat):Int)
   ·
    refine q_lss true rfl rfl (decide_eq_true hc15) zN (lw_nil (c_cond_t rfl (wp_skip (wp_seq (wp_block (wp_seq (wp_draw _ [0,0,0,0,0] mixed (by kernel_rfl) (lw_tv 1 rfl (q_index (s:=s) 0 u9 rfl rfl rfl sD zN (lw_tv 1 rfl (q_index (s:=⟨#[63,97,115,108,114]⟩) k u9 rfl rfl rfl (by show _ < 5; omega) zN ?_)))))))))))
    by_cases hc16:((sAt s 0 :Nat):Int) = ((sAt (⟨#[63,97,115,108,114]⟩) k :Nat):Int)
    ·
     refine q_eql true rfl rfl (decide_eq_true hc16) zN (lw_nil (c_cond_t rfl (wp_plain _ [0,0,4] rfl (lw_tv 1 rfl (q_fldP (p:=(.pointer (some ⟨w6.heap.size,0,none⟩))) (b:=w6.heap.size) (o:=0) 0 fd55_0 rfl rfl zN (e_setB (k:=0) (w:=w12.drew) sz2 rfl rfl ⟨rfl,rfl⟩ hL12_1 sM zN fun w17 hC17 hz17 hB17=>?_))))))
     replace hC17:=hC17.of_drew
     replace hB17:BX w17.heap w6.heap.size [(.int .i64 ((k :Nat):Int)),(.int .i64 (rdD ((s.extract 1 s.size)).data.toList))]:=hB17
     have hE17:Ext w w17:=hC17.below hE12 (fun c hc=>by have:=List.mem_singleton.1 hc; omega) hE12.size
     have hzs17:w12.heap.size≤w17.heap.size:=hC17.size
     have hF18:=hL12_0.chg hC17 (fun hm=>by have:=List.mem_singleton.1 hm; omega)
     exact lw_nil (wp_plain _ [0,0,0] rfl (lw_tv 1 rfl (q_add ((k + 1 :Nat):Int) rfl rfl (w64n oM oM) zN (lw_tvn 1 rfl ⟨((k + 1),((k :Nat):Int)),_,rfl,⟨rfl,rfl,rfl,rfl,rfl,trivial⟩,⟨hE17,hF18,hB17,oM,(by first | exact kdK_t oM oM oM | exact hq.trans (kdK_f oM oM oM)),oM⟩,by first | omega | (dsimp only; omega)⟩))))
    ·
     exact q_eql false rfl rfl (decide_eq_false hc16) zN (lw_nil (c_cond_f rfl (wp_skip (wp_plain _ [0,0,0] rfl (lw_tv 1 rfl (q_add ((k + 1 :Nat):Int) rfl rfl (w64n oM oM) zN (lw_tvn 1 rfl ⟨((k + 1),kq),_,rfl,⟨rfl,rfl,rfl,rfl,rfl,trivial⟩,⟨hE12.drew,hL12_0,hL12_1,oM,(by first | exact kdK_t oM oM oM | exact hq.trans (kdK_f oM oM oM)),oM⟩,by first | omega | (dsimp only; omega)⟩)))))))
   ·
    refine q_lss false rfl rfl (decide_eq_false hc15) zN (lw_nil (c_cond_f rfl (wp_exit (t_exit (t_exit (c_exit_here (wp_seq (wp_draw _ [1,0,0,1,3,0,4,0] mixed (by kernel_rfl) ?_))))))))
    have hrd:=rdD_rng (s.extract 1 s.size).data.toList
    refine q_loadA (p:=(.pointer (some ⟨w6.heap.size,0,none⟩))) (.inl rfl) [(.int .i64 kq),(.int .i64 (rdD ((s.extract 1 s.size)).data.toList))] agg55 rfl (fun wq9 hw9=>LD.of_box (BX.ext (w:=w12.drew) hL12_1 hw9)) rfl zN (lw_tv 2 rfl ?_)
    cases hb19:(okD ((s.extract 1 s.size)).data.toList)
    ·
     refine lw_tv 3 rfl (e_setA (vs:=[(.int .i64 kq),(.int .i64 (rdD ((s.extract 1 s.size)).data.toList))]) agg55 rfl rfl z31_0 hL12_0 rfl rfl zN fun w20 hC20 hz20 hB20=>?_)
     replace hC20:=hC20.of_drew
     replace hB20:BX w20.heap w.heap.size [(.int .i64 kq),(.int .i64 (rdD ((s.extract 1 s.size)).data.toList))]:=hB20
     have hE20:Ext w w20:=hC20.below hE12 (fun c hc=>by have:=List.mem_singleton.1 hc; omega) hE12.size
     have hzs20:w12.heap.size≤w20.heap.size:=hC20.size
     have hF21:=hL12_1.chg hC20 (fun hm=>by have:=List.mem_singleton.1 hm; omega)
     refine lw_tvn 1 rfl (wp_ret ?_)
     exact post_retC (k:=2) (t0:=3) (ts:=[]) (cs:=[(.int .i64 kq),(.int .i64 (rdD ((s.extract 1 s.size)).data.toList))]) [(.bool false)] rfl agg55 rfl hB20 rfl rfl (by first | exact rw_ret (a:=⟨kq,rdD ((s.extract 1 s.size)).data.toList⟩) hE20 (by decide) (rw_1 (by assumption)).1 (fun _=>(rw_1 (by assumption)).2) | exact rw_ret (a:=⟨kq,rdD ((s.extract 1 s.size)).data.toList⟩) hE20 (by decide) (rw_2 (by assumption) oM) (fun h=>by cases h) | exact rw_ret (a:=⟨kq,rdD ((s.extract 1 s.size)).data.toList⟩) hE20 ⟨⟨by dsimp only; omega,by dsimp only; omega⟩,hrd⟩ (rw_3f oM (by assumption)) (fun h=>by cases h) | exact rw_ret (a:=⟨kq,rdD ((s.extract 1 s.size)).data.toList⟩) hE20 ⟨⟨by dsimp only; omega,by dsimp only; omega⟩,hrd⟩ (rw_3t oM (by assumption) hq oM).1 (rw_3t oM (by assumption) hq oM).2)
    ·
     refine q_loadA (p:=(.pointer (some ⟨w6.heap.size,0,none⟩))) (.inl rfl) [(.int .i64 kq),(.int .i64 (rdD ((s.extract 1 s.size)).data.toList))] agg55 rfl (fun wq9 hw9=>LD.of_box (BX.ext (w:=w12.drew) hL12_1 hw9)) rfl (zS (e:=36) rfl rfl rfl) (lw_call 46 [] [] [(.agg #[(.int .i64 kq),(.int .i64 (rdD ((s.extract 1 s.size)).data.toList))])] rfl rfl cf46 (zS (e:=36) rfl rfl rfl) (c_spec_l06Action _ (⟨kq,rdD ((s.extract 1 s.size)).data.toList⟩:Av) ⟨(rng_03 hk3),(rdD_rng _)⟩) ?_)
     rintro e22 w22 ⟨rfl,hX22⟩
     refine ⟨_,rfl,hX22,?_⟩
     replace hX22:=hX22.of_drew
     have hzs22:w12.heap.size≤w22.heap.size:=hX22.size
     have hE22:Ext w w22:=hE12.trans hX22
     have hL12_0x22:=hL12_0.ext hX22
     have hL12_1x22:=hL12_1.ext hX22
     refine lw_tv 1 rfl (e_setA (vs:=[(.int .i64 kq),(.int .i64 (rdD ((s.extract 1 s.size)).data.toList))]) agg55 rfl rfl z31_0 hL12_0x22 rfl rfl zN fun w23 hC23 hz23 hB23=>?_)
     replace hB23:BX w23.heap w.heap.size [(.int .i64 kq),(.int .i64 (rdD ((s.extract 1 s.size)).data.toList))]:=hB23
     have hE23:Ext w w23:=hC23.below hE22 (fun c hc=>by have:=List.mem_singleton.1 hc; omega) hE22.size
     have hzs23:w22.heap.size≤w23.heap.size:=hC23.size
     have hF24:=hL12_1x22.chg hC23 (fun hm=>by have:=List.mem_singleton.1 hm; omega)
     refine lw_tvn 1 rfl (wp_ret ?_)
     exact post_retC (k:=2) (t0:=3) (ts:=[]) (cs:=[(.int .i64 kq),(.int .i64 (rdD ((s.extract 1 s.size)).data.toList))]) [(.bool (avB (⟨kq,rdD ((s.extract 1 s.size)).data.toList⟩:Av)))] rfl agg55 rfl hB23 rfl rfl (by first | exact rw_ret (a:=⟨kq,rdD ((s.extract 1 s.size)).data.toList⟩) hE23 (by decide) (rw_1 (by assumption)).1 (fun _=>(rw_1 (by assumption)).2) | exact rw_ret (a:=⟨kq,rdD ((s.extract 1 s.size)).data.toList⟩) hE23 (by decide) (rw_2 (by assumption) oM) (fun h=>by cases h) | exact rw_ret (a:=⟨kq,rdD ((s.extract 1 s.size)).data.toList⟩) hE23 ⟨⟨by dsimp only; omega,by dsimp only; omega⟩,hrd⟩ (rw_3f oM (by assumption)) (fun h=>by cases h) | exact rw_ret (a:=⟨kq,rdD ((s.extract 1 s.size)).data.toList⟩) hE23 ⟨⟨by dsimp only; omega,by dsimp only; omega⟩,hrd⟩ (rw_3t oM (by assumption) hq oM).1 (rw_3t oM (by assumption) hq oM).2)
 ·
  refine q_eqls true u9 rfl rfl hc2 zN (lw_nil (c_cond_t rfl (wp_seq (wp_plain _ [0,4,0] rfl ?_))))
  have hbd25:∀ (wq:World),(Instr.build 55 #[(0,(.int .i64 ((4 :Nat):Int)))]).run Tryd.prog wq = .ok (.agg #[(.int .i64 ((4 :Nat):Int)),(.int .i64 0)]) wq:=by intro wq; kernel_rfl
  refine q_build (ps:=#[(0,(.int .i64 ((4 :Nat):Int)))]) (.agg #[(.int .i64 ((4 :Nat):Int)),(.int .i64 0)]) (by simp only [List.map_toArray,List.map_cons,List.map_nil]; rfl) (fun wq=>hbd25  wq) zN (e_setA (vs:=[(.int .i64 ((4 :Nat):Int)),(.int .i64 0)]) agg55 rfl rfl z31_0 hB1 rfl rfl zN fun w26 hC26 hz26 hB26=>?_)
  replace hB26:BX w26.heap w.heap.size [(.int .i64 ((4 :Nat):Int)),(.int .i64 0)]:=hB26
  have hE26:Ext w w26:=hC26.below hE1 (fun c hc=>by have:=List.mem_singleton.1 hc; omega) hE1.size
  have hzs26:w1.heap.size≤w26.heap.size:=hC26.size
  exact lw_tvn 1 rfl (wp_ret (t_ret (post_retC (k:=2) (t0:=3) (ts:=[]) (cs:=[(.int .i64 ((4 :Nat):Int)),(.int .i64 0)]) [(.bool true)] rfl agg55 rfl hB26 rfl rfl (by first | exact rw_ret (a:=⟨((4 :Nat):Int),0⟩) hE26 (by decide) (rw_1 (by assumption)).1 (fun _=>(rw_1 (by assumption)).2) | exact rw_ret (a:=⟨((4 :Nat):Int),0⟩) hE26 (by decide) (rw_2 (by assumption) oM) (fun h=>by cases h) | exact rw_ret (a:=⟨((4 :Nat):Int),0⟩) hE26 ⟨⟨by dsimp only; omega,by dsimp only; omega⟩,hrd⟩ (rw_3f oM (by assumption)) (fun h=>by cases h) | exact rw_ret (a:=⟨((4 :Nat):Int),0⟩) hE26 ⟨⟨by dsimp only; omega,by dsimp only; omega⟩,hrd⟩ (rw_3t oM (by assumption) hq oM).1 (rw_3t oM (by assumption) hq oM).2))))
theorem z30_0 {p:Prop} (h:p:=by intro j h1 h2; first | omega | exact (Nat.lt_succ_iff_lt_or_eq.1 h2).elim (hq j h1) fun h9=>by subst h9; omega):p:=h
theorem z30_1 {p:Prop} (h:p:=by first | omega | (simp only [List.length_append,List.length_cons,List.length_nil]; omega)):p:=h
theorem c_spec_l01Split (w:World) (s:ByteArray)  (hs:s.size≤1048576) :
  Calls Tryd.prog 30 #[.string s,.int .u8 ((32 :Nat):Int)] w (fun e w'=>∃ v,e = .returned v∧Ext w w'∧Fr (owL rT 9) w.heap.size w'.heap.size w'.heap v (wds s)):=by
 refine calls_mk [.string s,.int .u8 ((32 :Nat):Int)] 35 Tryd.func30 rfl rfl sM ?_
 have hE0:Ext w w:=Ext.refl w
 refine wp_seq (wp_plain _ [0] rfl (lw_tvn 1 rfl (wp_seq (wp_plain _ [3,0] rfl (r_nil rT good_rT u52 ti9 zN fun v1 w1 hX1 hz1 hO1=>?_)))))
 have hzs1:w.heap.size≤w1.heap.size:=hX1.size
 have hE1:Ext w w1:=hE0.trans hX1
 refine lw_tvn 1 rfl (wp_seq (wp_plain _ [0] rfl (lw_tvn 1 rfl (wp_seq (wp_seq (wp_plain _ [0] rfl (lw_tvn 1 rfl (wp_block ?_))))))))
 refine c_loop (S:=Nat × Nat × List ByteArray × Value) (fun (⟨i,f,o,vo⟩:Nat × Nat × List ByteArray × Value)=>([(5,vo),(6,(.int .i64 ((f :Nat):Int))),(7,(.int .i64 ((i :Nat):Int))),(0,(.string s)),(1,(.int .u8 ((32 :Nat):Int)))]:List (Nat × Value))) (fun (⟨i,f,o,vo⟩:Nat × Nat × List ByteArray × Value) (W:World)=>Ext w W∧Fr (owL rT 9) w.heap.size W.heap.size W.heap vo o∧(f≤i∧i≤s.size∧o.length≤i)∧o.map (·.data.toList)++spl (s.data.toList.drop f) = spl s.data.toList∧(∀ j,f≤j→j < i→sAt s j≠32)) (fun (⟨i,f,o,vo⟩:Nat × Nat × List ByteArray × Value)=>s.size - i) (0,0,([]:List ByteArray),v1) ⟨rfl,rfl,rfl,rfl,rfl,trivial⟩ ⟨hE1,hO1.up oT,(by exact ⟨by omega,by omega,Nat.le_refl 0⟩),(by exact sp_start),(by intro j h1 h2; omega)⟩ ?_
 clear hE0 hO1 hz1 hX1 hzs1 hE1
 rintro ⟨i,f,o,vo⟩ ρ2 w2 ⟨hE2,hL2_0,hp2_0,hA,hq⟩
 have hzs2:w.heap.size≤w2.heap.size:=hE2.size
 refine wp_seq (wp_seq (wp_plain _ [0,0,0,0] rfl (lw_tv 2 rfl (q_lens (s:=s) u9 rfl zN ?_))))
 by_cases hc3:((i :Nat):Int) < ((s.size :Nat):Int)
 ·
  refine q_lss true rfl rfl (decide_eq_true hc3) zN (lw_nil (c_cond_t rfl (wp_skip (wp_seq (wp_block (wp_seq (wp_plain _ [0,0,0,0,0] rfl (lw_tv 2 rfl (q_index (s:=s) i u9 rfl rfl rfl sD zN (lw_tv 1 rfl ?_))))))))))
  by_cases hc4:((sAt s i :Nat):Int) = ((32 :Nat):Int)
  ·
   refine q_eql true rfl rfl (decide_eq_true hc4) zN (lw_nil (c_cond_t rfl (wp_seq (wp_plain _ [0,0,0,0,0,3,4,0] rfl (lw_tv 4 rfl (q_slS (s:=s) f i u9 rfl rfl rfl rfl rfl oM oM zN (r_one (u:=.string (s.extract f i)) (B:=w2.heap.size) (U:=w2.heap.size) good_rT u52 ti9 rfl rfl (frT (s.extract f i)) (Nat.le_refl _) zN fun v5 w5 hX5 hz5 hO5=>?_)))))))
   have hzs5:w2.heap.size≤w5.heap.size:=hX5.size
   have hE5:Ext w w5:=hE2.trans hX5
   have hL2_0x5:=hL2_0.ext (oT) hX5
   refine e_appF good_rT (v:=vo) (a:=v5) u52 ti9 rfl rfl rfl hL2_0x5 oM hO5 oM oM (by simp only [List.length_cons,List.length_nil]; omega) (by simp only [List.length_cons,List.length_nil]; unfold maxLen; omega) zN fun v6 w6 F6 hC6 hF6 hO6=>?_
   have hzs6:w5.heap.size≤w6.heap.size:=hC6.size
   have hE6:Ext w w6:=hC6.below hE5 (fun c hc=>by have:=hF6 _ hc; omega) hE5.size
   refine lw_tvn 1 rfl (wp_plain _ [0,0,0] rfl (lw_tv 1 rfl (q_add ((i + 1 :Nat):Int) rfl rfl (w64n oM sD) zN (lw_tvn 1 rfl (wp_plain _ [0,0,0] rfl (lw_tv 1 rfl ?_))))))
   refine q_add ((i + 1 :Nat):Int) rfl rfl (w64n oM sD) zN (lw_tvn 1 rfl ?_)
   exact ⟨((i + 1),(i + 1),(o++[(s.extract f i)]),v6),_,rfl,⟨rfl,rfl,rfl,rfl,rfl,trivial⟩,⟨hE6,hO6.up oT,z30_1,(by first | exact hA | exact sp_step hA oM oM hq oM),z30_0⟩,by first | omega | (dsimp only; omega)⟩
  ·
   refine q_eql false rfl rfl (decide_eq_false hc4) zN (lw_nil (c_cond_f rfl (wp_skip (wp_plain _ [0,0,0] rfl (lw_tv 1 rfl (q_add ((i + 1 :Nat):Int) rfl rfl (w64n oM sD) zN (lw_tvn 1 rfl ?_)))))))
   exact ⟨((i + 1),f,o,vo),_,rfl,⟨rfl,rfl,rfl,rfl,rfl,trivial⟩,⟨hE2,hL2_0.up oT,z30_1,(by first | exact hA | exact sp_step hA oM oM hq oM),z30_0⟩,by first | omega | (dsimp only; omega)⟩
 ·
  refine q_lss false rfl rfl (decide_eq_false hc3) zN (lw_nil (c_cond_f rfl (wp_exit (t_exit (t_exit (c_exit_here (wp_seq (wp_plain _ [0,0,0,0,3,4,0] rfl (lw_tv 3 rfl (q_slT (s:=s) f u9 rfl rfl rfl oM zN (r_one (u:=.string (s.extract f s.size)) (B:=w2.heap.size) (U:=w2.heap.size) good_rT u52 ti9 rfl rfl (frT (s.extract f s.size)) (Nat.le_refl _) zN fun v7 w7 hX7 hz7 hO7=>?_)))))))))))
  have hzs7:w2.heap.size≤w7.heap.size:=hX7.size
  have hE7:Ext w w7:=hE2.trans hX7
  have hL2_0x7:=hL2_0.ext (oT) hX7
  refine e_appF good_rT (v:=vo) (a:=v7) u52 ti9 rfl rfl rfl hL2_0x7 oM hO7 oM oM (by simp only [List.length_cons,List.length_nil]; omega) (by simp only [List.length_cons,List.length_nil]; unfold maxLen; omega) zN fun v8 w8 F8 hC8 hF8 hO8=>?_
  have hzs8:w7.heap.size≤w8.heap.size:=hC8.size
  have hE8:Ext w w8:=hC8.below hE7 (fun c hc=>by have:=hF8 _ hc; omega) hE7.size
  exact lw_tvn 1 rfl (wp_ret (post_ret [4] rfl v8 rfl (by have h:=((hO8.up oT).low (B':=w.heap.size) oM); rw [sp_end hA oM oM hq] at h; exact ⟨_,rfl,hE8,h⟩)))
theorem c_spec_ReadSchedule (w:World) (s:ByteArray)  (hs:s.size≤1048576) :
  Calls Tryd.prog 12 #[.string s] w (fun e w'=>∃ v,e = .returned (.tuple #[v,.int .i64 (rsC s.data.toList)])∧Ext w w'∧Fr (owS 2 rAv 55) w.heap.size w'.heap.size w'.heap v (rsQ s.data.toList)):=by
 refine calls_mk [.string s] 46 Tryd.func12 rfl rfl sM ?_
 have hE0:Ext w w:=Ext.refl w
 have hwl:=wds_le s
 refine wp_seq (wp_plain _ [0,0] rfl (lw_tvn 2 rfl (wp_seq (wp_seq (wp_plain _ [0,0] rfl (lw_tv 1 rfl ?_))))))
 cases hc1:strE s (⟨#[45]⟩)
 ·
  refine q_eqls false u9 rfl rfl hc1 zN (lw_nil (c_cond_f rfl (wp_skip (wp_seq (wp_plain _ [0,3,0] rfl (lw_tv 1 rfl (lw_call 30 [] [] [(.string s),(.int .u8 32)] rfl rfl cf30 zN (c_spec_l01Split _ (s) oM) ?_)))))))
  rintro e2 w2 ⟨v2,rfl,hX2,hO2⟩
  refine ⟨_,rfl,hX2,?_⟩
  have hzs2:w.heap.size≤w2.heap.size:=hX2.size
  have hE2:Ext w w2:=hE0.trans hX2
  refine lw_tvn 1 rfl (wp_seq (wp_plain _ [3,0] rfl (r_nilS (α:=Av) good_rAv u34 tiS55 zN fun v3 w3 hX3 hz3 hO3=>?_)))
  have hzs3:w2.heap.size≤w3.heap.size:=hX3.size
  have hE3:Ext w w3:=hE2.trans hX3
  have hO2x3:=hO2.ext (oT) hX3
  refine lw_tvn 1 rfl (wp_seq (wp_seq (wp_plain _ [0] rfl (lw_tvn 1 rfl (wp_block ?_)))))
  refine c_loop (S:=Nat × Value) (fun (⟨i,vo⟩:Nat × Value)=>([(5,vo),(6,(.int .i64 ((i :Nat):Int))),(0,(.string s)),(4,v2)]:List (Nat × Value))) (fun (⟨i,vo⟩:Nat × Value) (W:World)=>Ext w W∧Fr (owS 2 rAv 55) w2.heap.size W.heap.size W.heap vo (((wds s).take i).map rdB)∧Fr (owL rT 9) w.heap.size w2.heap.size W.heap v2 (wds s)∧i≤(wds s).length∧i≤400∧(∀ j,j < i→rwO ((wds s).getD j ByteArray.empty).data.toList = true)∧w2.heap.size≤W.heap.size∧w2.heap.size≤W.heap.size) (fun (⟨i,vo⟩:Nat × Value)=>(wds s).length - i) (0,v3) ⟨rfl,rfl,rfl,rfl,trivial⟩ ⟨hE3,hO3.up (good_owS good_rAv),hO2x3,sD,oM,(by intro j hj; omega),oM,oM⟩ ?_
  clear hE0 hO2 hX2 hO3 hz3 hX3 hzs3 hE3 hO2x3
  rintro ⟨i,vo⟩ ρ4 w4 ⟨hE4,hL4_0,hL4_1,hp4_0,hp4_1,hd,hkB5,hkB6⟩
  have hzs4:w.heap.size≤w4.heap.size:=hE4.size
  refine wp_seq (wp_seq (wp_plain _ [0,0,0,0] rfl (lw_tv 2 rfl (q_len (v:=v2) u52 rfl hL4_1.isSl zN ?_))))
  by_cases hc7:((i :Nat):Int) < (((wds s).length :Nat):Int)
  ·
   refine q_lss true rfl rfl (decide_eq_true hc7) zN (lw_nil (c_cond_t rfl (wp_skip (wp_seq (wp_block (wp_seq (wp_plain _ [0,0,0,2,3,0,0,0,3,4,0] rfl (lw_tv 2 rfl (q_idx (v:=v2) i u52 ti9 rfl rfl hL4_1.isSl rfl sD zN ?_)))))))))
   refine q_load (p:=eptr v2 i 1) (.inr rfl) (.string ((wds s).getD i ByteArray.empty)) one9 rfl (hL4_1.getT sD) zN (lw_call 31 [] [] [(.string ((wds s).getD i ByteArray.empty))] rfl rfl cf31 zN (c_spec_l06ReadWord _ (((wds s).getD i ByteArray.empty))) ?_)
   rintro e8 w8 ⟨a8,rfl,hX8,ha8,hb8⟩
   refine ⟨_,rfl,hX8,?_⟩
   have hzs8:w4.heap.size≤w8.heap.size:=hX8.size
   have hE8:Ext w w8:=hE4.trans hX8
   have hL4_0x8:=hL4_0.ext ((good_owS good_rAv)) hX8
   have hL4_1x8:=hL4_1.ext (oT) hX8
   have hrw:=hb8
   refine lw_tv 1 rfl (q_extract (vs:=[(.agg #[(.int .i64 a8.kind),(.int .i64 a8.arg)]),(.bool (rwO (((wds s).getD i ByteArray.empty)).data.toList))]) (.agg #[(.int .i64 a8.kind),(.int .i64 a8.arg)]) rfl rfl zN (q_extract (vs:=[(.agg #[(.int .i64 a8.kind),(.int .i64 a8.arg)]),(.bool (rwO (((wds s).getD i ByteArray.empty)).data.toList))]) (.bool (rwO (((wds s).getD i ByteArray.empty)).data.toList)) rfl rfl zN (r_allocA (z:=.agg #[.int .i64 0,.int .i64 0]) zr55 zN fun w9 hX9 hz9 hB9=>?_)))
   have hzs9:w8.heap.size≤w9.heap.size:=hX9.size
   have hE9:Ext w w9:=hE8.trans hX9
   have hL4_0x9:=hL4_0x8.ext ((good_owS good_rAv)) hX9
   have hL4_1x9:=hL4_1x8.ext (oT) hX9
   replace hB9:BX w9.heap w8.heap.size [(.int .i64 0),(.int .i64 0)]:=hB9
   refine e_setA (vs:=[(.int .i64 a8.kind),(.int .i64 a8.arg)]) agg55 rfl rfl (by intro u hu; simp only [List.mem_cons,List.not_mem_nil,or_false] at hu; rcases hu with rfl | rfl <;> first | exact ⟨rfl,rfl⟩) hB9 rfl rfl zN fun w10 hC10 hz10 hB10=>?_
   replace hB10:BX w10.heap w8.heap.size [(.int .i64 a8.kind),(.int .i64 a8.arg)]:=hB10
   have hE10:Ext w w10:=hC10.below hE9 (fun c hc=>by have:=List.mem_singleton.1 hc; omega) hE9.size
   have hzs10:w9.heap.size≤w10.heap.size:=hC10.size
   have hF11:=hL4_0x9.chg ((good_owS good_rAv)) hC10 (fun c hc=>by have:=List.mem_singleton.1 hc; omega)
   have hF12:=hL4_1x9.chg (oT) hC10 (fun c hc=>by have:=List.mem_singleton.1 hc; omega)
   refine lw_tvn 1 rfl (wp_seq (wp_seq (wp_plain _ [0,0,0,0,0,0] rfl ?_)))
   have hml:=tkm_len (g:=rdB) (l:=wds s) (i:=i) oM
   refine lw_tv 1 rfl (q_not (!(rwO (((wds s).getD i ByteArray.empty)).data.toList)) rfl rfl zN (lw_tv 1 rfl ?_))
   cases hb13:(!(rwO (((wds s).getD i ByteArray.empty)).data.toList))
   ·
    refine lw_tv 1 rfl ?_
    by_cases hc14:((i :Nat):Int) = ((400 :Nat):Int)
    ·
     refine q_eql true rfl rfl (decide_eq_true hc14) (zS (e:=31) rfl rfl rfl) (lw_tvn 1 rfl (c_cond_t rfl (wp_seq (wp_plain _ [3,0,0] rfl (r_nilS (α:=Av) good_rAv u34 tiS55 zN fun v15 w15 hX15 hz15 hO15=>?_)))))
     have hzs15:w10.heap.size≤w15.heap.size:=hX15.size
     have hE15:Ext w w15:=hE10.trans hX15
     have hF11x15:=hF11.ext ((good_owS good_rAv)) hX15
     have hF12x15:=hF12.ext (oT) hX15
     have hB10x15:=hB10.ext hX15
     refine lw_tvn 2 rfl (wp_ret (t_ret (b_ret (t_ret (t_ret (b_ret (t_ret ?_)))))))
     exact post_ret [2,3] rfl (.tuple #[v15,(.int .i64 ((5 :Nat):Int))]) rfl (by first | exact rs_ret hE15 ((hO15.up (good_owS good_rAv)).low (B':=w.heap.size) oM) (rs_0 (by assumption)) | exact rs_ret hE15 ((hO15.up (good_owS good_rAv)).low (B':=w.heap.size) oM) (rs_5 (rs_bad (i:=i) (strE_d (by assumption)) oM (nbT (by assumption)))) | exact rs_ret hE15 ((hO15.up (good_owS good_rAv)).low (B':=w.heap.size) oM) (rs_5 (rs_many (strE_d (by assumption)) oM)) | exact rs_ret hE15 ((hO15.up (good_owS good_rAv)).low (B':=w.heap.size) oM) (rs_f5 (rs_all (by assumption) oM hd) (by assumption)) | exact rs_ret hE15 ((hO15.up (good_owS good_rAv)).low (B':=w.heap.size) oM) (rs_f0 (rs_all (by assumption) oM hd) (by assumption)))
    ·
     refine q_eql false rfl rfl (decide_eq_false hc14) (zS (e:=31) rfl rfl rfl) (lw_tvn 1 rfl (c_cond_f rfl (wp_skip (wp_plain _ [0,2,3,4,0] rfl (lw_tv 1 rfl (q_loadA (p:=(.pointer (some ⟨w8.heap.size,0,none⟩))) (.inr rfl) [(.int .i64 a8.kind),(.int .i64 a8.arg)] agg55 rfl (fun wq9 hw9=>LD.of_box (BX.ext (w:=w10) hB10 hw9)) rfl zN (r_oneS (cs:=[(.int .i64 a8.kind),(.int .i64 a8.arg)]) (y:=a8) (B:=w10.heap.size) (U:=w10.heap.size) good_rAv u34 tiS55 rfl (by decide) rfl (frN_avL (a:=a8) ⟨ha8.1,ha8.2⟩) oM zN fun v16 w16 hX16 hz16 hO16=>?_)))))))
     have hzs16:w10.heap.size≤w16.heap.size:=hX16.size
     have hE16:Ext w w16:=hE10.trans hX16
     have hF11x16:=hF11.ext ((good_owS good_rAv)) hX16
     have hF12x16:=hF12.ext (oT) hX16
     have hB10x16:=hB10.ext hX16
     refine e_appS (v:=vo) (a:=v16) good_rAv u34 tiS55 rfl (by decide) rfl rfl hF11x16 oM hO16 oM oM oM (by unfold maxLen; omega) zN fun v17 w17 F17 hC17 hF17 hO17=>?_
     have hzs17:w16.heap.size≤w17.heap.size:=hC17.size
     have hE17:Ext w w17:=hC17.below hE16 (fun c hc=>by have:=hF17 _ hc; omega) hE16.size
     have hF18:=hF12x16.chg (oT) hC17 (fun c hc=>by have:=hF17 _ hc; omega)
     have hF19:=hB10x16.chg hC17 (fun hm=>by have:=hF17 _ hm; omega)
     refine lw_tvn 1 rfl (wp_plain _ [0,0,0] rfl (lw_tv 1 rfl (q_add ((i + 1 :Nat):Int) rfl rfl (w64n oM sD) zN (lw_tvn 1 rfl ?_))))
     exact ⟨((i + 1),v17),_,rfl,⟨rfl,rfl,rfl,rfl,trivial⟩,⟨hE17,(by rw [tk_map (d:=ByteArray.empty) oM]; have h:=hO17.up (good_owS good_rAv); rwa [hrw (nb (by assumption))] at h),hF18,sD,oM,(by intro j hj; exact (Nat.lt_succ_iff_lt_or_eq.1 hj).elim (hd j) fun h9=>by subst h9; exact nb (by assumption)),oM,oM⟩,by first | omega | (dsimp only; omega)⟩
   ·
    refine lw_tvn 3 rfl (c_cond_t rfl (wp_seq (wp_plain _ [3,0,0] rfl (r_nilS (α:=Av) good_rAv u34 tiS55 zN fun v20 w20 hX20 hz20 hO20=>?_))))
    have hzs20:w10.heap.size≤w20.heap.size:=hX20.size
    have hE20:Ext w w20:=hE10.trans hX20
    have hF11x20:=hF11.ext ((good_owS good_rAv)) hX20
    have hF12x20:=hF12.ext (oT) hX20
    have hB10x20:=hB10.ext hX20
    refine lw_tvn 2 rfl (wp_ret (t_ret (b_ret (t_ret (t_ret (b_ret (t_ret ?_)))))))
    exact post_ret [2,3] rfl (.tuple #[v20,(.int .i64 ((5 :Nat):Int))]) rfl (by first | exact rs_ret hE20 ((hO20.up (good_owS good_rAv)).low (B':=w.heap.size) oM) (rs_0 (by assumption)) | exact rs_ret hE20 ((hO20.up (good_owS good_rAv)).low (B':=w.heap.size) oM) (rs_5 (rs_bad (i:=i) (strE_d (by assumption)) oM (nbT (by assumption)))) | exact rs_ret hE20 ((hO20.up (good_owS good_rAv)).low (B':=w.heap.size) oM) (rs_5 (rs_many (strE_d (by assumption)) oM)) | exact rs_ret hE20 ((hO20.up (good_owS good_rAv)).low (B':=w.heap.size) oM) (rs_f5 (rs_all (by assumption) oM hd) (by assumption)) | exact rs_ret hE20 ((hO20.up (good_owS good_rAv)).low (B':=w.heap.size) oM) (rs_f0 (rs_all (by assumption) oM hd) (by assumption)))
  ·
   refine q_lss false rfl rfl (decide_eq_false hc7) zN (lw_nil (c_cond_f rfl (wp_exit (t_exit (t_exit (c_exit_here (wp_seq (wp_seq (wp_plain _ [0,3,0,0] rfl ?_)))))))))
   have hml:=tkm_len (g:=rdB) (l:=wds s) (i:=i) oM
   refine lw_tv 1 rfl (lw_call 32 [] [] [vo] rfl rfl cf32 zN (c_spec_ScheduleText _ vo (((wds s).take i).map rdB) (RN.of_frA (S:=[]) hL4_0 (fun b hb=>by cases hb)) oM) ?_)
   rintro e21 w21 ⟨rfl,hX21⟩
   refine ⟨_,rfl,hX21,?_⟩
   have hzs21:w4.heap.size≤w21.heap.size:=hX21.size
   have hE21:Ext w w21:=hE4.trans hX21
   have hL4_0x21:=hL4_0.ext ((good_owS good_rAv)) hX21
   have hL4_1x21:=hL4_1.ext (oT) hX21
   refine lw_tv 1 rfl ?_
   cases hc22:(!strE (ba (scL (((wds s).take i).map rdB))) s)
   ·
    refine q_neqs false u9 rfl rfl hc22 zN (lw_nil (c_cond_f rfl (wp_skip (wp_seq (wp_plain _ [0,0,0] rfl (lw_tvn 3 rfl (wp_ret ?_)))))))
    exact post_ret [2,3] rfl (.tuple #[vo,(.int .i64 ((0 :Nat):Int))]) rfl (by first | exact rs_ret hE21 ((hL4_0x21.up (good_owS good_rAv)).low (B':=w.heap.size) oM) (rs_0 (by assumption)) | exact rs_ret hE21 ((hL4_0x21.up (good_owS good_rAv)).low (B':=w.heap.size) oM) (rs_5 (rs_bad (i:=i) (strE_d (by assumption)) oM (nbT (by assumption)))) | exact rs_ret hE21 ((hL4_0x21.up (good_owS good_rAv)).low (B':=w.heap.size) oM) (rs_5 (rs_many (strE_d (by assumption)) oM)) | exact rs_ret hE21 ((hL4_0x21.up (good_owS good_rAv)).low (B':=w.heap.size) oM) (rs_f5 (rs_all (by assumption) oM hd) (by assumption)) | exact rs_ret hE21 ((hL4_0x21.up (good_owS good_rAv)).low (B':=w.heap.size) oM) (rs_f0 (rs_all (by assumption) oM hd) (by assumption)))
   ·
    refine q_neqs true u9 rfl rfl hc22 zN (lw_nil (c_cond_t rfl (wp_seq (wp_plain _ [3,0,0] rfl (r_nilS (α:=Av) good_rAv u34 tiS55 zN fun v23 w23 hX23 hz23 hO23=>?_)))))
    have hzs23:w21.heap.size≤w23.heap.size:=hX23.size
    have hE23:Ext w w23:=hE21.trans hX23
    have hL4_0x23:=hL4_0x21.ext ((good_owS good_rAv)) hX23
    have hL4_1x23:=hL4_1x21.ext (oT) hX23
    exact lw_tvn 2 rfl (wp_ret (t_ret (post_ret [2,3] rfl (.tuple #[v23,(.int .i64 ((5 :Nat):Int))]) rfl (by first | exact rs_ret hE23 ((hO23.up (good_owS good_rAv)).low (B':=w.heap.size) oM) (rs_0 (by assumption)) | exact rs_ret hE23 ((hO23.up (good_owS good_rAv)).low (B':=w.heap.size) oM) (rs_5 (rs_bad (i:=i) (strE_d (by assumption)) oM (nbT (by assumption)))) | exact rs_ret hE23 ((hO23.up (good_owS good_rAv)).low (B':=w.heap.size) oM) (rs_5 (rs_many (strE_d (by assumption)) oM)) | exact rs_ret hE23 ((hO23.up (good_owS good_rAv)).low (B':=w.heap.size) oM) (rs_f5 (rs_all (by assumption) oM hd) (by assumption)) | exact rs_ret hE23 ((hO23.up (good_owS good_rAv)).low (B':=w.heap.size) oM) (rs_f0 (rs_all (by assumption) oM hd) (by assumption))))))
 ·
  refine q_eqls true u9 rfl rfl hc1 zN (lw_nil (c_cond_t rfl (wp_seq (wp_plain _ [3,0,0] rfl (r_nilS (α:=Av) good_rAv u34 tiS55 zN fun v24 w24 hX24 hz24 hO24=>?_)))))
  have hzs24:w.heap.size≤w24.heap.size:=hX24.size
  have hE24:Ext w w24:=hE0.trans hX24
  exact lw_tvn 2 rfl (wp_ret (t_ret (post_ret [2,3] rfl (.tuple #[v24,(.int .i64 ((0 :Nat):Int))]) rfl (by first | exact rs_ret hE24 ((hO24.up (good_owS good_rAv)).low (B':=w.heap.size) oM) (rs_0 (by assumption)) | exact rs_ret hE24 ((hO24.up (good_owS good_rAv)).low (B':=w.heap.size) oM) (rs_5 (rs_bad (i:=i) (strE_d (by assumption)) oM (nbT (by assumption)))) | exact rs_ret hE24 ((hO24.up (good_owS good_rAv)).low (B':=w.heap.size) oM) (rs_5 (rs_many (strE_d (by assumption)) oM)) | exact rs_ret hE24 ((hO24.up (good_owS good_rAv)).low (B':=w.heap.size) oM) (rs_f5 (rs_all (by assumption) oM hd) (by assumption)) | exact rs_ret hE24 ((hO24.up (good_owS good_rAv)).low (B':=w.heap.size) oM) (rs_f0 (rs_all (by assumption) oM hd) (by assumption))))))
theorem z13_0 {p:Prop} (h:p:=by rw [tk_map (d:=ByteArray.empty) oM]; have h:=hPe.bn (good_owS good_rAv); first | (rw [rdB_4 hws oM] at h; exact h.sub (fun b hb=>by (try dsimp only at hb); omega)) | (rw [rdB_n hws oM] at h; exact h.sub (fun b hb=>by (try dsimp only at hb); omega))):p:=h
theorem z13_1 {p:Prop} (h:p:=by intro j hj; exact (Nat.lt_succ_iff_lt_or_eq.1 hj).elim (hd j) fun h9=>by subst h9; exact strE_f (by assumption)):p:=h
theorem c_impl_ReadSchedule (w:World) (s:ByteArray)  (hs:s.size≤1048576) (hG:GW w) :
  Calls Tryd.prog 13 #[.string s] w (fun e w'=>∃ v,e = .returned (.tuple #[v,.int .i64 (rsC s.data.toList)])∧Ext w w'∧Fr (owS 2 rAv 55) w.heap.size w'.heap.size w'.heap v (rsQ s.data.toList)):=by
 refine calls_mk [.string s] 50 Tryd.func13 rfl rfl sM ?_
 have hE0:Ext w w:=Ext.refl w
 have hwl:=wds_le s
 refine wp_seq (wp_plain _ [0,0] rfl (lw_tvn 2 rfl (wp_seq (wp_seq (wp_plain _ [0,0,0] rfl (lw_tv 1 rfl (q_lens (s:=s) u9 rfl zN ?_)))))))
 by_cases hc1:((1600 :Nat):Int) < ((s.size :Nat):Int)
 ·
  exact q_gtr true rfl rfl (decide_eq_true hc1) zN (lw_nil (c_cond_t rfl (wp_seq (wp_plain _ [0,0] rfl (lw_tvn 2 rfl (wp_ret (t_ret (post_ret [2,3] rfl (.tuple #[(.slice none 0 0),(.int .i64 ((5 :Nat):Int))]) rfl (by first | exact rs_ret hE0 (frNilS _ _ _) (rs_5 (rs_long (by rw [sz_len]; omega))) | exact rs_ret hE0 (frNilS _ _ _) (rs_f5 (rs_stop oM hd hn (by first | (left; omega) | (right; left; assumption) | (right; right; assumption))) (by assumption)) | exact rs_ret hE0 (frNilS _ _ _) (rs_f0 (rs_stop oM hd hn (by first | (left; omega) | (right; left; assumption) | (right; right; assumption))) (by assumption)))))))))))
 ·
  refine q_gtr false rfl rfl (decide_eq_false hc1) zN (lw_nil (c_cond_f rfl (wp_skip (wp_seq (wp_plain _ [3,0] rfl (r_nilS (α:=Av) good_rAv u34 tiS55 zN fun v2 w2 hX2 hz2 hO2=>?_))))))
  have hzs2:w.heap.size≤w2.heap.size:=hX2.size
  have hE2:Ext w w2:=hE0.trans hX2
  refine lw_tvn 1 rfl (wp_seq (wp_seq (wp_plain _ [0,3,0,0] rfl (lw_tv 1 rfl (lw_call 33 [] [] [(.string s),(.string (⟨#[32]⟩))] rfl rfl cf33 zN (c_split _ (hG.ext hE2) (s) oM) ?_)))))
  rintro e3 w3 ⟨v3,rfl,hX3,hO3⟩
  refine ⟨_,rfl,hX3,?_⟩
  have hzs3:w2.heap.size≤w3.heap.size:=hX3.size
  have hE3:Ext w w3:=hE2.trans hX3
  have hO2x3:=hO2.ext ((good_owS good_rAv)) hX3
  refine q_len (v:=v3) u52 rfl hO3.isSl zN (lw_tvn 1 rfl (wp_block ?_))
  have hP0:=FrP.ofF hO2x3
  refine c_loop (S:=Nat × Value) (fun (⟨k,vo⟩:Nat × Value)=>([(4,vo),(15,(.int .i64 ((k :Nat):Int))),(0,(.string s)),(13,v3),(14,(.int .i64 (((wds s).length :Nat):Int)))]:List (Nat × Value))) (fun (⟨k,vo⟩:Nat × Value) (W:World)=>Ext w W∧Fr (owL rT 9) w2.heap.size w3.heap.size W.heap v3 (wds s)∧(FrP (owS 2 rAv 55) (fun b=>w.heap.size≤b∧b < w2.heap.size∨w3.heap.size≤b∧b < W.heap.size) W.heap vo (((wds s).take k).map rdB))∧k≤(wds s).length∧(∀ j,j < k→((wds s).getD j ByteArray.empty).data.toList≠[])∧(0 < k→s.data.toList≠[45])∧w3.heap.size≤W.heap.size) (fun (⟨k,vo⟩:Nat × Value)=>(wds s).length - k) (0,v2) ⟨rfl,rfl,rfl,rfl,rfl,trivial⟩ ⟨hE3,hO3,(by exact hP0.sub (fun b hb=>by (try dsimp only at hb); omega)),sD,(by intro j hj; omega),(by intro h; omega),oM⟩ ?_
  clear hE0 hO2 hz2 hX2 hO3 hX3 hO2x3
  rintro ⟨k,vo⟩ ρ4 w4 ⟨hE4,hL4_0,hPl,hp4_1,hd,hn,hkB5⟩
  have hzs4:w.heap.size≤w4.heap.size:=hE4.size
  refine wp_seq (wp_plain _ [0] rfl ?_)
  by_cases hc6:((k :Nat):Int) < (((wds s).length :Nat):Int)
  ·
   refine q_lss true rfl rfl (decide_eq_true hc6) zN (lw_nil (wp_seq (c_cond_t rfl (wp_skip (wp_seq (wp_block (wp_seq (wp_plain _ [0,2,0] rfl (q_idx (v:=v3) k u52 ti9 rfl rfl hL4_0.isSl rfl sD zN ?_)))))))))
   refine q_load (p:=eptr v3 k 1) (.inr rfl) (.string ((wds s).getD k ByteArray.empty)) one9 rfl (hL4_0.getT sD) zN (lw_tvn 1 rfl (wp_seq (wp_seq (wp_plain _ [0,0,0,0,0,0] rfl (lw_tv 1 rfl ?_)))))
   cases hc7:strE ((wds s).getD k ByteArray.empty) (⟨#[]⟩)
   ·
    refine q_eqls false u9 rfl rfl hc7 zN (lw_tv 2 rfl ?_)
    cases hc8:strE s (⟨#[45]⟩)
    ·
     refine q_eqls false u9 rfl rfl hc8 (zS (e:=21) rfl rfl rfl) (lw_tvn 1 rfl (c_cond_f rfl (wp_skip (wp_seq (wp_plain _ [0,0,0,0,0,3,4] rfl ?_)))))
     have hws:=sz_pos (s:=((wds s).getD k ByteArray.empty)) (by assumption)
     have hix:=ixL_rng ((wds s).getD k ByteArray.empty)
     have hwz:=wd_size (s:=s) (i:=k) oM
     refine lw_tv 1 rfl (q_index (s:=((wds s).getD k ByteArray.empty)) 0 u9 rfl rfl rfl sD zN (lw_callq 34 [] [] [(.string (⟨#[97,115,108,114]⟩)),(.int .u8 ((sAt ((wds s).getD k ByteArray.empty) 0 :Nat):Int))] rfl rfl cf34 zN (.int .i64 (ixL ((wds s).getD k ByteArray.empty))) (fun wq=>c_ixb wq (⟨#[97,115,108,114]⟩) (sAt ((wds s).getD k ByteArray.empty) 0)) (q_add (ixL ((wds s).getD k ByteArray.empty) + 1) rfl rfl (w64 oM oM) zN ?_)))
     have hbd10:∀ (wq:World),(Instr.build 55 #[(0,(.int .i64 (ixL ((wds s).getD k ByteArray.empty) + 1)))]).run Tryd.prog wq = .ok (.agg #[(.int .i64 (ixL ((wds s).getD k ByteArray.empty) + 1)),(.int .i64 0)]) wq:=by intro wq; kernel_rfl
     refine q_build (ps:=#[(0,(.int .i64 (ixL ((wds s).getD k ByteArray.empty) + 1)))]) (.agg #[(.int .i64 (ixL ((wds s).getD k ByteArray.empty) + 1)),(.int .i64 0)]) (by simp only [List.map_toArray,List.map_cons,List.map_nil]; rfl) (fun wq=>hbd10  wq) zN (r_allocA (z:=.agg #[.int .i64 0,.int .i64 0]) zr55 zN fun w11 hX11 hz11 hB11=>?_)
     have hzs11:w4.heap.size≤w11.heap.size:=hX11.size
     have hE11:Ext w w11:=hE4.trans hX11
     have hL4_0x11:=hL4_0.ext (oT) hX11
     have hP12:=hPl.ext (good_owS good_rAv) hX11
     replace hB11:BX w11.heap w4.heap.size [(.int .i64 0),(.int .i64 0)]:=hB11
     refine e_setA (vs:=[(.int .i64 (ixL ((wds s).getD k ByteArray.empty) + 1)),(.int .i64 0)]) agg55 rfl rfl (by intro u hu; simp only [List.mem_cons,List.not_mem_nil,or_false] at hu; rcases hu with rfl | rfl <;> first | exact ⟨rfl,rfl⟩) hB11 rfl rfl zN fun w13 hC13 hz13 hB13=>?_
     replace hB13:BX w13.heap w4.heap.size [(.int .i64 (ixL ((wds s).getD k ByteArray.empty) + 1)),(.int .i64 0)]:=hB13
     have hE13:Ext w w13:=hC13.below hE11 (fun c hc=>by have:=List.mem_singleton.1 hc; omega) hE11.size
     have hzs13:w11.heap.size≤w13.heap.size:=hC13.size
     have hF14:=hL4_0x11.chg (oT) hC13 (fun c hc=>by have:=List.mem_singleton.1 hc; omega)
     have hF15:=hP12.chg ((good_owS good_rAv)) hC13 (fun c hc=>by have:=List.mem_singleton.1 hc; intro h9; (try dsimp only at h9); omega)
     refine lw_nil (wp_seq (wp_seq (wp_plain _ [0,2,0] rfl (q_fldP (p:=(.pointer (some ⟨w4.heap.size,0,none⟩))) (b:=w4.heap.size) (o:=0) 0 fd55_0 rfl rfl zN (q_load (p:=(padd (.pointer (some ⟨w4.heap.size,0,none⟩)) 0)) (.inr rfl) (.int .i64 (ixL ((wds s).getD k ByteArray.empty) + 1)) one2 rfl (hB13.ldp (i:=0) sM) zN ?_)))))
     by_cases hc16:ixL ((wds s).getD k ByteArray.empty) + 1≠((4 :Nat):Int)
     ·
      refine q_neq true rfl rfl (decide_eq_true hc16) zN (lw_nil (c_cond_t rfl (wp_plain _ [0,0,3,0,0,0,0,4] rfl ?_)))
      have hxz:=ex_size ((wds s).getD k ByteArray.empty) 1 ((wds s).getD k ByteArray.empty).size
      refine lw_tv 1 rfl (q_slT (s:=((wds s).getD k ByteArray.empty)) 1 u9 rfl rfl rfl oM zN (lw_call 35 [] [] [(.string (((wds s).getD k ByteArray.empty).extract 1 ((wds s).getD k ByteArray.empty).size)),(.int .i64 ((0 :Nat):Int)),(.int .i64 ((40 :Nat):Int))] rfl rfl cf35 zN (c_impl_readDecimal _ ((((wds s).getD k ByteArray.empty).extract 1 ((wds s).getD k ByteArray.empty).size)) (((0 :Nat):Int)) (((40 :Nat):Int)) oM oM oM (hG.ext hE13)) ?_))
      rintro e17 w17 ⟨rfl,hX17⟩
      refine ⟨_,rfl,hX17,?_⟩
      have hzs17:w13.heap.size≤w17.heap.size:=hX17.size
      have hE17:Ext w w17:=hE13.trans hX17
      have hF14x17:=hF14.ext (oT) hX17
      have hB13x17:=hB13.ext hX17
      have hP18:=hF15.ext (good_owS good_rAv) hX17
      refine lw_tv 1 rfl (q_extract (vs:=[(.int .i64 (rdN ((((wds s).getD k ByteArray.empty).extract 1 ((wds s).getD k ByteArray.empty).size)).data.toList)),(.bool (rdO (((wds s).getD k ByteArray.empty).extract 1 ((wds s).getD k ByteArray.empty).size) ((0 :Nat):Int) ((40 :Nat):Int)))]) (.int .i64 (rdN ((((wds s).getD k ByteArray.empty).extract 1 ((wds s).getD k ByteArray.empty).size)).data.toList)) rfl rfl zN (q_extract (vs:=[(.int .i64 (rdN ((((wds s).getD k ByteArray.empty).extract 1 ((wds s).getD k ByteArray.empty).size)).data.toList)),(.bool (rdO (((wds s).getD k ByteArray.empty).extract 1 ((wds s).getD k ByteArray.empty).size) ((0 :Nat):Int) ((40 :Nat):Int)))]) (.bool (rdO (((wds s).getD k ByteArray.empty).extract 1 ((wds s).getD k ByteArray.empty).size) ((0 :Nat):Int) ((40 :Nat):Int))) rfl rfl zN ?_))
      refine q_fldP (p:=(.pointer (some ⟨w4.heap.size,0,none⟩))) (b:=w4.heap.size) (o:=0) 1 fd55_1 rfl rfl zN (e_setB (k:=1) (w:=w17) sz2 rfl rfl ⟨rfl,rfl⟩ hB13x17 sM zN fun w19 hC19 hz19 hB19=>?_)
      replace hB19:BX w19.heap w4.heap.size [(.int .i64 (ixL ((wds s).getD k ByteArray.empty) + 1)),(.int .i64 (rdN ((((wds s).getD k ByteArray.empty).extract 1 ((wds s).getD k ByteArray.empty).size)).data.toList))]:=hB19
      have hE19:Ext w w19:=hC19.below hE17 (fun c hc=>by have:=List.mem_singleton.1 hc; omega) hE17.size
      have hzs19:w17.heap.size≤w19.heap.size:=hC19.size
      have hF20:=hF14x17.chg (oT) hC19 (fun c hc=>by have:=List.mem_singleton.1 hc; omega)
      have hF21:=hP18.chg ((good_owS good_rAv)) hC19 (fun c hc=>by have:=List.mem_singleton.1 hc; intro h9; (try dsimp only at h9); omega)
      refine lw_nil (wp_plain _ [0,2,3,4,0] rfl ?_)
      have hml:=tkm_len (g:=rdB) (l:=wds s) (i:=k) oM
      refine lw_tv 1 rfl (q_loadA (p:=(.pointer (some ⟨w4.heap.size,0,none⟩))) (.inr rfl) [(.int .i64 (ixL ((wds s).getD k ByteArray.empty) + 1)),(.int .i64 (rdN ((((wds s).getD k ByteArray.empty).extract 1 ((wds s).getD k ByteArray.empty).size)).data.toList))] agg55 rfl (fun wq9 hw9=>LD.of_box (BX.ext (w:=w19) hB19 hw9)) rfl zN ?_)
      refine r_oneS (cs:=[(.int .i64 (ixL ((wds s).getD k ByteArray.empty) + 1)),(.int .i64 (rdN ((((wds s).getD k ByteArray.empty).extract 1 ((wds s).getD k ByteArray.empty).size)).data.toList))]) (y:=(⟨ixL ((wds s).getD k ByteArray.empty) + 1,rdN ((((wds s).getD k ByteArray.empty).extract 1 ((wds s).getD k ByteArray.empty).size)).data.toList⟩:Av)) (B:=w19.heap.size) (U:=w19.heap.size) good_rAv u34 tiS55 rfl (by decide) rfl (frN_avL (a:=(⟨ixL ((wds s).getD k ByteArray.empty) + 1,rdN ((((wds s).getD k ByteArray.empty).extract 1 ((wds s).getD k ByteArray.empty).size)).data.toList⟩:Av)) ⟨⟨by (try dsimp only); omega,by (try dsimp only); omega⟩,(rdN_rng _)⟩) oM zN fun v22 w22 hX22 hz22 hO22=>?_
      have hzs22:w19.heap.size≤w22.heap.size:=hX22.size
      have hE22:Ext w w22:=hE19.trans hX22
      have hF20x22:=hF20.ext (oT) hX22
      have hB19x22:=hB19.ext hX22
      have hP23:=hF21.ext (good_owS good_rAv) hX22
      refine e_appPL (v:=vo) (a:=v22) good_rAv u34 tiS55 rfl (by decide) rfl rfl hP23 (FrP.ofF hO22) (fun b h8 h9=>by (try dsimp only at h8 h9); omega) oM (by unfold maxLen; omega) zN fun v24 w24 F24 hC24 hF24 hO24=>?_
      have hN24:∀ c∈F24,(w.heap.size≤c∧c < w2.heap.size∨w3.heap.size≤c∧c < w4.heap.size):=hF24
      have hM24:∀ c∈F24,w.heap.size≤c∧c < w22.heap.size:=fun c hc=>by have:=hN24 c hc; omega
      have hzs24:w22.heap.size≤w24.heap.size:=hC24.size
      have hE24:Ext w w24:=hC24.below hE22 (fun c hc=>(hM24 c hc).1) hE22.size
      have hF25:=hF20x22.chg (oT) hC24 (fun c hc=>by have:=hN24 c hc; omega)
      have hF26:=hB19x22.chg hC24 (fun hm=>by have:=hN24 _ hm; omega)
      refine lw_tvn 1 rfl (wp_plain _ [0,0] rfl (q_add ((k + 1 :Nat):Int) rfl rfl (w64n oM sD) zN (lw_tvn 1 rfl ?_)))
      have hPe:=hO24
      exact ⟨((k + 1),v24),_,rfl,⟨rfl,rfl,rfl,rfl,rfl,trivial⟩,⟨hE24,hF25,z13_0,sD,z13_1,(by intro h; exact strE_f (by assumption)),oM⟩,by first | omega | (dsimp only; omega)⟩
     ·
      refine q_neq false rfl rfl (decide_eq_false hc16) zN (lw_nil (c_cond_f rfl (wp_skip (wp_plain _ [0,2,3,4,0] rfl ?_))))
      have hml:=tkm_len (g:=rdB) (l:=wds s) (i:=k) oM
      refine lw_tv 1 rfl (q_loadA (p:=(.pointer (some ⟨w4.heap.size,0,none⟩))) (.inr rfl) [(.int .i64 (ixL ((wds s).getD k ByteArray.empty) + 1)),(.int .i64 0)] agg55 rfl (fun wq9 hw9=>LD.of_box (BX.ext (w:=w13) hB13 hw9)) rfl zN (r_oneS (cs:=[(.int .i64 (ixL ((wds s).getD k ByteArray.empty) + 1)),(.int .i64 0)]) (y:=(⟨ixL ((wds s).getD k ByteArray.empty) + 1,0⟩:Av)) (B:=w13.heap.size) (U:=w13.heap.size) good_rAv u34 tiS55 rfl (by decide) rfl (frN_avL (a:=(⟨ixL ((wds s).getD k ByteArray.empty) + 1,0⟩:Av)) ⟨⟨by (try dsimp only); omega,by (try dsimp only); omega⟩,⟨by (try dsimp only); omega,by (try dsimp only); omega⟩⟩) oM zN fun v27 w27 hX27 hz27 hO27=>?_))
      have hzs27:w13.heap.size≤w27.heap.size:=hX27.size
      have hE27:Ext w w27:=hE13.trans hX27
      have hF14x27:=hF14.ext (oT) hX27
      have hB13x27:=hB13.ext hX27
      have hP28:=hF15.ext (good_owS good_rAv) hX27
      refine e_appPL (v:=vo) (a:=v27) good_rAv u34 tiS55 rfl (by decide) rfl rfl hP28 (FrP.ofF hO27) (fun b h8 h9=>by (try dsimp only at h8 h9); omega) oM (by unfold maxLen; omega) zN fun v29 w29 F29 hC29 hF29 hO29=>?_
      have hN29:∀ c∈F29,(w.heap.size≤c∧c < w2.heap.size∨w3.heap.size≤c∧c < w4.heap.size):=hF29
      have hM29:∀ c∈F29,w.heap.size≤c∧c < w27.heap.size:=fun c hc=>by have:=hN29 c hc; omega
      have hzs29:w27.heap.size≤w29.heap.size:=hC29.size
      have hE29:Ext w w29:=hC29.below hE27 (fun c hc=>(hM29 c hc).1) hE27.size
      have hF30:=hF14x27.chg (oT) hC29 (fun c hc=>by have:=hN29 c hc; omega)
      have hF31:=hB13x27.chg hC29 (fun hm=>by have:=hN29 _ hm; omega)
      refine lw_tvn 1 rfl (wp_plain _ [0,0] rfl (q_add ((k + 1 :Nat):Int) rfl rfl (w64n oM sD) zN (lw_tvn 1 rfl ?_)))
      have hPe:=hO29
      exact ⟨((k + 1),v29),_,rfl,⟨rfl,rfl,rfl,rfl,rfl,trivial⟩,⟨hE29,hF30,z13_0,sD,z13_1,(by intro h; exact strE_f (by assumption)),oM⟩,by first | omega | (dsimp only; omega)⟩
    ·
     refine q_eqls true u9 rfl rfl hc8 (zS (e:=21) rfl rfl rfl) (lw_tvn 1 rfl (c_cond_t rfl (wp_exit (t_exit (c_exit_out rfl (t_exit (t_exit (c_exit_here (wp_seq (wp_seq (wp_plain _ [0,3,0,0] rfl ?_)))))))))))
     have hml:=tkm_len (g:=rdB) (l:=wds s) (i:=k) oM
     refine lw_tv 1 rfl (lw_call 36 [] [] [vo] rfl rfl cf36 zN (c_impl_ScheduleText _ vo (((wds s).take k).map rdB) (RN.of_frA (S:=[]) (hPl.fr (good_owS good_rAv) (B:=w.heap.size) (fun b hb=>by (try dsimp only at hb); omega)) (fun b hb=>by cases hb)) oM (hG.ext hE4)) ?_)
     rintro e32 w32 ⟨rfl,hX32⟩
     refine ⟨_,rfl,hX32,?_⟩
     have hzs32:w4.heap.size≤w32.heap.size:=hX32.size
     have hE32:Ext w w32:=hE4.trans hX32
     have hL4_0x32:=hL4_0.ext (oT) hX32
     have hP33:=hPl.ext (good_owS good_rAv) hX32
     refine lw_tv 1 rfl ?_
     cases hc34:(!strE (ba (scL (((wds s).take k).map rdB))) s)
     ·
      refine q_neqs false u9 rfl rfl hc34 zN (lw_nil (c_cond_f rfl (wp_skip (wp_seq (wp_plain _ [0,0,0] rfl (lw_tvn 3 rfl (wp_ret ?_)))))))
      exact post_ret [2,3] rfl (.tuple #[vo,(.int .i64 ((0 :Nat):Int))]) rfl (by first | exact rs_ret hE32 ((hP33.fr (good_owS good_rAv) (B:=w.heap.size) (fun b hb=>by (try dsimp only at hb); omega))) (rs_5 (rs_long (by rw [sz_len]; omega))) | exact rs_ret hE32 ((hP33.fr (good_owS good_rAv) (B:=w.heap.size) (fun b hb=>by (try dsimp only at hb); omega))) (rs_f5 (rs_stop oM hd hn (by first | (left; omega) | (right; left; assumption) | (right; right; assumption))) (by assumption)) | exact rs_ret hE32 ((hP33.fr (good_owS good_rAv) (B:=w.heap.size) (fun b hb=>by (try dsimp only at hb); omega))) (rs_f0 (rs_stop oM hd hn (by first | (left; omega) | (right; left; assumption) | (right; right; assumption))) (by assumption)))
     ·
      exact q_neqs true u9 rfl rfl hc34 zN (lw_nil (c_cond_t rfl (wp_seq (wp_plain _ [0,0] rfl (lw_tvn 2 rfl (wp_ret (t_ret (post_ret [2,3] rfl (.tuple #[(.slice none 0 0),(.int .i64 ((5 :Nat):Int))]) rfl (by first | exact rs_ret hE32 (frNilS _ _ _) (rs_5 (rs_long (by rw [sz_len]; omega))) | exact rs_ret hE32 (frNilS _ _ _) (rs_f5 (rs_stop oM hd hn (by first | (left; omega) | (right; left; assumption) | (right; right; assumption))) (by assumption)) | exact rs_ret hE32 (frNilS _ _ _) (rs_f0 (rs_stop oM hd hn (by first | (left; omega) | (right; left; assumption) | (right; right; assumption))) (by assumption)))))))))))
   ·
    refine q_eqls true u9 rfl rfl hc7 zN (lw_tvn 4 rfl (c_cond_t rfl (wp_exit (t_exit (c_exit_out rfl (t_exit (t_exit (c_exit_here (wp_seq (wp_seq (wp_plain _ [0,3,0,0] rfl ?_)))))))))))
    have hml:=tkm_len (g:=rdB) (l:=wds s) (i:=k) oM
    refine lw_tv 1 rfl (lw_call 36 [] [] [vo] rfl rfl cf36 zN (c_impl_ScheduleText _ vo (((wds s).take k).map rdB) (RN.of_frA (S:=[]) (hPl.fr (good_owS good_rAv) (B:=w.heap.size) (fun b hb=>by (try dsimp only at hb); omega)) (fun b hb=>by cases hb)) oM (hG.ext hE4)) ?_)
    rintro e35 w35 ⟨rfl,hX35⟩
    refine ⟨_,rfl,hX35,?_⟩
    have hzs35:w4.heap.size≤w35.heap.size:=hX35.size
    have hE35:Ext w w35:=hE4.trans hX35
    have hL4_0x35:=hL4_0.ext (oT) hX35
    have hP36:=hPl.ext (good_owS good_rAv) hX35
    refine lw_tv 1 rfl ?_
    cases hc37:(!strE (ba (scL (((wds s).take k).map rdB))) s)
    ·
     refine q_neqs false u9 rfl rfl hc37 zN (lw_nil (c_cond_f rfl (wp_skip (wp_seq (wp_plain _ [0,0,0] rfl (lw_tvn 3 rfl (wp_ret ?_)))))))
     exact post_ret [2,3] rfl (.tuple #[vo,(.int .i64 ((0 :Nat):Int))]) rfl (by first | exact rs_ret hE35 ((hP36.fr (good_owS good_rAv) (B:=w.heap.size) (fun b hb=>by (try dsimp only at hb); omega))) (rs_5 (rs_long (by rw [sz_len]; omega))) | exact rs_ret hE35 ((hP36.fr (good_owS good_rAv) (B:=w.heap.size) (fun b hb=>by (try dsimp only at hb); omega))) (rs_f5 (rs_stop oM hd hn (by first | (left; omega) | (right; left; assumption) | (right; right; assumption))) (by assumption)) | exact rs_ret hE35 ((hP36.fr (good_owS good_rAv) (B:=w.heap.size) (fun b hb=>by (try dsimp only at hb); omega))) (rs_f0 (rs_stop oM hd hn (by first | (left; omega) | (right; left; assumption) | (right; right; assumption))) (by assumption)))
    ·
     exact q_neqs true u9 rfl rfl hc37 zN (lw_nil (c_cond_t rfl (wp_seq (wp_plain _ [0,0] rfl (lw_tvn 2 rfl (wp_ret (t_ret (post_ret [2,3] rfl (.tuple #[(.slice none 0 0),(.int .i64 ((5 :Nat):Int))]) rfl (by first | exact rs_ret hE35 (frNilS _ _ _) (rs_5 (rs_long (by rw [sz_len]; omega))) | exact rs_ret hE35 (frNilS _ _ _) (rs_f5 (rs_stop oM hd hn (by first | (left; omega) | (right; left; assumption) | (right; right; assumption))) (by assumption)) | exact rs_ret hE35 (frNilS _ _ _) (rs_f0 (rs_stop oM hd hn (by first | (left; omega) | (right; left; assumption) | (right; right; assumption))) (by assumption)))))))))))
  ·
   refine q_lss false rfl rfl (decide_eq_false hc6) zN (lw_nil (wp_seq (c_cond_f rfl (wp_exit (t_exit (t_exit (c_exit_here (wp_seq (wp_seq (wp_plain _ [0,3,0,0] rfl ?_))))))))))
   have hml:=tkm_len (g:=rdB) (l:=wds s) (i:=k) oM
   refine lw_tv 1 rfl (lw_call 36 [] [] [vo] rfl rfl cf36 zN (c_impl_ScheduleText _ vo (((wds s).take k).map rdB) (RN.of_frA (S:=[]) (hPl.fr (good_owS good_rAv) (B:=w.heap.size) (fun b hb=>by (try dsimp only at hb); omega)) (fun b hb=>by cases hb)) oM (hG.ext hE4)) ?_)
   rintro e38 w38 ⟨rfl,hX38⟩
   refine ⟨_,rfl,hX38,?_⟩
   have hzs38:w4.heap.size≤w38.heap.size:=hX38.size
   have hE38:Ext w w38:=hE4.trans hX38
   have hL4_0x38:=hL4_0.ext (oT) hX38
   have hP39:=hPl.ext (good_owS good_rAv) hX38
   refine lw_tv 1 rfl ?_
   cases hc40:(!strE (ba (scL (((wds s).take k).map rdB))) s)
   ·
    refine q_neqs false u9 rfl rfl hc40 zN (lw_nil (c_cond_f rfl (wp_skip (wp_seq (wp_plain _ [0,0,0] rfl (lw_tvn 3 rfl (wp_ret ?_)))))))
    exact post_ret [2,3] rfl (.tuple #[vo,(.int .i64 ((0 :Nat):Int))]) rfl (by first | exact rs_ret hE38 ((hP39.fr (good_owS good_rAv) (B:=w.heap.size) (fun b hb=>by (try dsimp only at hb); omega))) (rs_5 (rs_long (by rw [sz_len]; omega))) | exact rs_ret hE38 ((hP39.fr (good_owS good_rAv) (B:=w.heap.size) (fun b hb=>by (try dsimp only at hb); omega))) (rs_f5 (rs_stop oM hd hn (by first | (left; omega) | (right; left; assumption) | (right; right; assumption))) (by assumption)) | exact rs_ret hE38 ((hP39.fr (good_owS good_rAv) (B:=w.heap.size) (fun b hb=>by (try dsimp only at hb); omega))) (rs_f0 (rs_stop oM hd hn (by first | (left; omega) | (right; left; assumption) | (right; right; assumption))) (by assumption)))
   ·
    exact q_neqs true u9 rfl rfl hc40 zN (lw_nil (c_cond_t rfl (wp_seq (wp_plain _ [0,0] rfl (lw_tvn 2 rfl (wp_ret (t_ret (post_ret [2,3] rfl (.tuple #[(.slice none 0 0),(.int .i64 ((5 :Nat):Int))]) rfl (by first | exact rs_ret hE38 (frNilS _ _ _) (rs_5 (rs_long (by rw [sz_len]; omega))) | exact rs_ret hE38 (frNilS _ _ _) (rs_f5 (rs_stop oM hd hn (by first | (left; omega) | (right; left; assumption) | (right; right; assumption))) (by assumption)) | exact rs_ret hE38 (frNilS _ _ _) (rs_f0 (rs_stop oM hd hn (by first | (left; omega) | (right; left; assumption) | (right; right; assumption))) (by assumption)))))))))))
end Go.Proofs.YtlbefjfhfodnlaaDoor
namespace Go.Proofs.YtlbefjfhfodnlaaDoor
open Go Go.RowKit
set_option linter.unusedVariables false
set_option linter.unusedSimpArgs false
set_option maxHeartbeats 4000000
set_option maxRecDepth 100000
attribute [local irreducible] LW
theorem c_laws_eqAction (w:World) (a:Av) (b:Av) (ha:i64 a.kind∧i64 a.arg) (hb:i64 b.kind∧i64 b.arg) (hab:b = a) :
  Calls Tryd.prog 37 #[(.agg #[(.int .i64 a.kind),(.int .i64 a.arg)]),(.agg #[(.int .i64 b.kind),(.int .i64 b.arg)])] w (fun e w'=>e = .returned (.bool true)∧Ext w w'):=by
 refine calls_mk [(.agg #[(.int .i64 a.kind),(.int .i64 a.arg)]),(.agg #[(.int .i64 b.kind),(.int .i64 b.arg)])] 15 Tryd.func37 rfl rfl sM ?_
 have hE0:Ext w w:=Ext.refl w
 refine wp_seq (wp_plain _ [3,3,0] rfl (r_boxA (cs:=#[(.int .i64 a.kind),(.int .i64 a.arg)]) rfl zN fun w1 hX1 hz1 hB1=>?_))
 have hzs1:w.heap.size≤w1.heap.size:=hX1.size
 have hE1:Ext w w1:=hE0.trans hX1
 replace hB1:BX w1.heap w.heap.size [(.int .i64 a.kind),(.int .i64 a.arg)]:=hB1
 have hq3:=hB1.lt
 refine r_boxA (cs:=#[(.int .i64 b.kind),(.int .i64 b.arg)]) rfl zN fun w2 hX2 hz2 hB2=>?_
 have hzs2:w1.heap.size≤w2.heap.size:=hX2.size
 have hE2:Ext w w2:=hE1.trans hX2
 have hB1x2:=hB1.ext hX2
 replace hB2:BX w2.heap w1.heap.size [(.int .i64 b.kind),(.int .i64 b.arg)]:=hB2
 refine lw_tvn 1 rfl (wp_seq (wp_seq (wp_plain _ [0,2,0,2,0] rfl (q_fldP (p:=(.pointer (some ⟨w.heap.size,0,none⟩))) (b:=w.heap.size) (o:=0) 0 fd55_0 rfl rfl zN (q_load (p:=(padd (.pointer (some ⟨w.heap.size,0,none⟩)) 0)) (.inr rfl) (.int .i64 a.kind) one2 rfl (hB1x2.ldp (i:=0) sM) zN (q_fldP (p:=(.pointer (some ⟨w1.heap.size,0,none⟩))) (b:=w1.heap.size) (o:=0) 0 fd55_0 rfl rfl zN (q_load (p:=(padd (.pointer (some ⟨w1.heap.size,0,none⟩)) 0)) (.inr rfl) (.int .i64 b.kind) one2 rfl (hB2.ldp (i:=0) sM) zN ?_)))))))
 have hc4:¬ (a.kind≠b.kind):=(fun h9=>h9 (by rw [hab]))
 refine q_neq false rfl rfl (decide_eq_false hc4) zN (lw_nil (c_cond_f rfl (wp_skip (wp_seq (wp_seq (wp_plain _ [0,2,0,2,0] rfl (q_fldP (p:=(.pointer (some ⟨w.heap.size,0,none⟩))) (b:=w.heap.size) (o:=0) 1 fd55_1 rfl rfl zN (q_load (p:=(padd (.pointer (some ⟨w.heap.size,0,none⟩)) 1)) (.inr rfl) (.int .i64 a.arg) one2 rfl (hB1x2.ldp (i:=1) sM) zN (q_fldP (p:=(.pointer (some ⟨w1.heap.size,0,none⟩))) (b:=w1.heap.size) (o:=0) 1 fd55_1 rfl rfl zN (q_load (p:=(padd (.pointer (some ⟨w1.heap.size,0,none⟩)) 1)) (.inr rfl) (.int .i64 b.arg) one2 rfl (hB2.ldp (i:=1) sM) zN ?_))))))))))
 have hc5:¬ (a.arg≠b.arg):=(fun h9=>h9 (by rw [hab]))
 exact q_neq false rfl rfl (decide_eq_false hc5) zN (lw_nil (c_cond_f rfl (wp_skip (wp_seq (wp_plain _ [0] rfl (lw_tvn 1 rfl (wp_ret (post_ret [4] rfl (.bool true) rfl ⟨rfl,hE2⟩))))))))
theorem z14_0 {p:Prop} (h:p:=by first | exact ret_bool rfl | (exfalso; omega) | (exfalso; simp_all; done)):p:=h
theorem c_laws_eqActionS (w:World) (va:Value) (a:List Av) (vb:Value) (b:List Av) (ha:RN [] (rdS 2 rAv) w.heap va a) (hb:RN [] (rdS 2 rAv) w.heap vb b) (hab:b = a) (hla:a.length≤1048576) :
  Calls Tryd.prog 14 #[va,vb] w (fun e w'=>e = .returned (.bool true)∧Ext w w'):=by
 refine calls_mk [va,vb] 27 Tryd.func14 rfl rfl sM ?_
 have hE0:Ext w w:=Ext.refl w
 have hk1:b.length = a.length:=by rw [hab]
 refine wp_seq (wp_plain _ [0] rfl (lw_tvn 1 rfl (wp_seq (wp_seq (wp_plain _ [0,0,0,0,0] rfl (lw_tv 1 rfl (q_len (v:=va) u34 rfl ha.isSl zN (lw_tv 1 rfl (q_len (v:=vb) u34 rfl hb.isSl zN ?_)))))))))
 by_cases hc1:((a.length :Nat):Int)≠((b.length :Nat):Int)
 ·
  exact q_neq true rfl rfl (decide_eq_true hc1) zN (lw_nil (c_cond_t rfl (wp_seq (wp_plain _ [0] rfl (lw_tvn 1 rfl (wp_ret (t_ret (post_ret [4] rfl (.bool false) rfl ⟨z14_0,hE0⟩))))))))
 ·
  refine q_neq false rfl rfl (decide_eq_false hc1) zN (lw_nil (c_cond_f rfl (wp_skip (wp_seq (wp_seq (wp_plain _ [0] rfl (lw_tvn 1 rfl (wp_block (c_loop (S:=Nat) (fun (k:Nat)=>([(5,(.int .i64 ((k :Nat):Int))),(0,va),(1,vb)]:List (Nat × Value))) (fun (k:Nat) (W:World)=>Ext w W∧k≤a.length) (fun (k:Nat)=>a.length - k) 0 ⟨rfl,rfl,rfl,trivial⟩ ⟨hE0,oM⟩ ?_)))))))))
  clear hE0
  rintro k ρ2 w2 ⟨hE2,hp2_0⟩
  have hzs2:w.heap.size≤w2.heap.size:=hE2.size
  refine wp_seq (wp_seq (wp_plain _ [0,0,0,0] rfl (lw_tv 2 rfl (q_len (v:=va) u34 rfl ha.isSl zN ?_))))
  by_cases hc3:((k :Nat):Int) < ((a.length :Nat):Int)
  ·
   refine q_lss true rfl rfl (decide_eq_true hc3) zN (lw_nil (c_cond_t rfl (wp_skip (wp_seq (wp_block (wp_seq (wp_draw _ [0,0,0,1,0,0,0,1,3,0] mixed (by kernel_rfl) (lw_tv 2 rfl (q_idx (v:=va) k u34 tiS55 rfl rfl ha.isSl rfl sD zN ?_)))))))))
   obtain ⟨cs4,hr4,hl4⟩:=ha.get good_rAv Av.zero (k:=k) sD
   obtain ⟨rfl,hx4⟩:=rn_av hr4
   refine q_loadA (p:=eptr va k 2) (.inl rfl) [(.int .i64 ((a.getD k Av.zero).kind)),(.int .i64 ((a.getD k Av.zero).arg))] agg55 rfl (fun wq9 hw9=>hl4 wq9 (Chg.of_ext [] (hE2.drew.trans hw9))) rfl zN (lw_tv 2 rfl (q_idx (v:=vb) k u34 tiS55 rfl rfl hb.isSl rfl sD zN ?_))
   obtain ⟨cs5,hr5,hl5⟩:=hb.get good_rAv Av.zero (k:=k) sD
   obtain ⟨rfl,hx5⟩:=rn_av hr5
   refine q_loadA (p:=eptr vb k 2) (.inl rfl) [(.int .i64 ((b.getD k Av.zero).kind)),(.int .i64 ((b.getD k Av.zero).arg))] agg55 rfl (fun wq9 hw9=>hl5 wq9 (Chg.of_ext [] (hE2.drew.trans hw9))) rfl zN (lw_call 37 [] [] [(.agg #[(.int .i64 ((a.getD k Av.zero).kind)),(.int .i64 ((a.getD k Av.zero).arg))]),(.agg #[(.int .i64 ((b.getD k Av.zero).kind)),(.int .i64 ((b.getD k Av.zero).arg))])] rfl rfl cf37 zN (c_laws_eqAction _ (a.getD k Av.zero) (b.getD k Av.zero) ⟨hx4.1,hx4.2⟩ ⟨hx5.1,hx5.2⟩ (by rw [hab])) ?_)
   rintro e6 w6 ⟨rfl,hX6⟩
   refine ⟨_,rfl,hX6,?_⟩
   replace hX6:=hX6.of_drew
   have hzs6:w2.heap.size≤w6.heap.size:=hX6.size
   have hE6:Ext w w6:=hE2.trans hX6
   exact q_not false rfl rfl zN (lw_nil (c_cond_f rfl (wp_skip (wp_plain _ [0,0,0] rfl (lw_tv 1 rfl (q_add ((k + 1 :Nat):Int) rfl rfl (w64n oM oM) zN (lw_tvn 1 rfl ⟨(k + 1),_,rfl,⟨rfl,rfl,rfl,trivial⟩,⟨hE6,oM⟩,by first | omega | (dsimp only; omega)⟩)))))))
  ·
   exact q_lss false rfl rfl (decide_eq_false hc3) zN (lw_nil (c_cond_f rfl (wp_exit (t_exit (t_exit (c_exit_here (wp_seq (wp_plain _ [0] rfl (lw_tvn 1 rfl (wp_ret (post_ret [4] rfl (.bool true) rfl ⟨z14_0,hE2⟩)))))))))))
theorem c_laws_markActionS (w:World) (va:Value) (a:List Av) (Fa:List Nat) (k:Int) (ha:owS 2 rAv 55 w.heap va a Fa) (hna:Fa.Nodup) (_hk:-9223372036854775808≤k∧k≤9223372036854775807) (hk:0≤k∧k + 2 * ((a.length :Nat):Int)≤4000000000) :
  Calls Tryd.prog 15 #[va,.int .i64 k] w (fun e w'=>e = .returned (.int .i64 (k + 2 * ((a.length :Nat):Int)))∧Chg Fa w w'∧owS 2 rAv 55 w'.heap va (mkAv k a.length) Fa):=by
 refine calls_mk [va,.int .i64 k] 27 Tryd.func15 rfl rfl sM ?_
 have hE0:Chg Fa w w:=Chg.refl Fa w
 have hl_va:=ha.lenle
 unfold maxLen at hl_va
 refine wp_seq (wp_plain _ [0] rfl (lw_tvn 1 rfl (wp_seq (wp_seq (wp_plain _ [0] rfl (lw_tvn 1 rfl (wp_block (c_loop (S:=Nat × Int) (fun (⟨j,l⟩:Nat × Int)=>([(1,(.int .i64 l)),(5,(.int .i64 ((j :Nat):Int))),(0,va)]:List (Nat × Value))) (fun (⟨j,l⟩:Nat × Int) (W:World)=>Chg Fa w W∧j≤a.length∧owS 2 rAv 55 W.heap va (mkT k j a) Fa∧l = k + 2 * ((j :Nat):Int)) (fun (⟨j,l⟩:Nat × Int)=>a.length - j) (0,k) ⟨rfl,rfl,rfl,trivial⟩ ⟨hE0,oM,(by exact ha),oM⟩ ?_))))))))
 clear hE0
 rintro ⟨j,l⟩ ρ1 w1 ⟨hE1,hp1_0,hsh,hq⟩
 have hzs1:w.heap.size≤w1.heap.size:=hE1.size
 refine wp_seq (wp_seq (wp_plain _ [0,0,0,0] rfl ?_))
 have hml:=mkT_len (k:=k) (j:=j) (a:=a) oM
 refine lw_tv 2 rfl (q_len (v:=va) u34 rfl hsh.isSl zN ?_)
 by_cases hc2:((j :Nat):Int) < (((mkT k j a).length :Nat):Int)
 ·
  refine q_lss true rfl rfl (decide_eq_true hc2) zN (lw_nil (c_cond_t rfl (wp_skip (wp_seq (wp_block (wp_seq (wp_plain _ [0,0,0,0,0,4] rfl (lw_tv 3 rfl (q_idx (v:=va) j u34 tiS55 rfl rfl hsh.isSl rfl sD zN ?_)))))))))
  obtain ⟨gb3,ob3,hpb3⟩:=hsh.isPtr (k:=j) sD
  refine q_fldP (p:=eptr va j 2) (b:=gb3) (o:=ob3) 0 fd55_0 rfl hpb3 zN (e_avS (v:=va) (j:=j) (c:=0) ⟨l,((mkT k j a).getD j Av.zero).arg⟩ sz2 rfl rfl oM hsh hna sD (.inl ⟨rfl,rfl⟩) zN fun w4 hC4 hz4 hH4=>?_)
  have hE4:Chg Fa w w4:=hE1.trans hC4
  have hzs4:w1.heap.size≤w4.heap.size:=hC4.size
  refine lw_nil (wp_seq (wp_plain _ [0,0,0] rfl (lw_tv 1 rfl (q_add (l + 1) rfl rfl (w64 oM oM) zN (lw_tvn 1 rfl (wp_seq (wp_plain _ [0,0,0,0,0,4] rfl ?_)))))))
  have hml2:((mkT k j a).set j ⟨l,((mkT k j a).getD j Av.zero).arg⟩).length = a.length:=by rw [List.length_set]; exact hml
  refine lw_tv 3 rfl (q_idx (v:=va) j u34 tiS55 rfl rfl hH4.isSl rfl sD zN ?_)
  obtain ⟨gb5,ob5,hpb5⟩:=hH4.isPtr (k:=j) sD
  refine q_fldP (p:=eptr va j 2) (b:=gb5) (o:=ob5) 1 fd55_1 rfl hpb5 zN (e_avS (v:=va) (j:=j) (c:=1) ⟨(((mkT k j a).set j ⟨l,((mkT k j a).getD j Av.zero).arg⟩).getD j Av.zero).kind,l + 1⟩ sz2 rfl rfl oM hH4 hna sD (.inr ⟨rfl,rfl⟩) zN fun w6 hC6 hz6 hH6=>?_)
  have hE6:Chg Fa w w6:=hE4.trans hC6
  have hzs6:w4.heap.size≤w6.heap.size:=hC6.size
  refine lw_nil (wp_plain _ [0,0,0] rfl (lw_tv 1 rfl (q_add (l + 1 + 1) rfl rfl (w64 oM oM) zN (lw_tvn 1 rfl (wp_plain _ [0,0,0] rfl (lw_tv 1 rfl (q_add ((j + 1 :Nat):Int) rfl rfl (w64n oM oM) zN (lw_tvn 1 rfl ?_))))))))
  have hHe:=hH6
  exact ⟨((j + 1),(l + 1 + 1)),_,rfl,⟨rfl,rfl,rfl,trivial⟩,⟨hE6,oM,(by have h:=hHe; rw [mkT_fin oM hq] at h; exact h),oM⟩,by first | omega | (dsimp only; omega)⟩
 ·
  exact q_lss false rfl rfl (decide_eq_false hc2) zN (lw_nil (c_cond_f rfl (wp_exit (t_exit (t_exit (c_exit_here (wp_seq (wp_plain _ [0,0] rfl (lw_tvn 2 rfl (wp_ret (post_ret [4] rfl (.int .i64 l) rfl (by (have hj:j = a.length:=by omega); subst hj; exact ⟨ret_int oM,hE1,by rw [← mkT_all]; exact hsh⟩))))))))))))
theorem c_laws_heldActionS (w:World) (va:Value) (a:List Av) (k:Int) (ha:RN [] (rdS 2 rAv) w.heap va a) (_hk:-9223372036854775808≤k∧k≤9223372036854775807) (hak:a = mkAv k a.length) (hk:0≤k∧k + 2 * ((a.length :Nat):Int)≤4000000000) :
  Calls Tryd.prog 16 #[va,.int .i64 k] w (fun e w'=>e = .returned (.int .i64 (k + 2 * ((a.length :Nat):Int)))∧Ext w w'):=by
 refine calls_mk [va,.int .i64 k] 31 Tryd.func16 rfl rfl sM ?_
 have hE0:Ext w w:=Ext.refl w
 refine wp_seq (wp_plain _ [0] rfl (lw_tvn 1 rfl (wp_seq (wp_seq (wp_plain _ [0] rfl (lw_tvn 1 rfl (wp_block (c_loop (S:=Nat × Int) (fun (⟨j,l⟩:Nat × Int)=>([(1,(.int .i64 l)),(5,(.int .i64 ((j :Nat):Int))),(0,va)]:List (Nat × Value))) (fun (⟨j,l⟩:Nat × Int) (W:World)=>Ext w W∧j≤a.length∧l = k + 2 * ((j :Nat):Int)) (fun (⟨j,l⟩:Nat × Int)=>a.length - j) (0,k) ⟨rfl,rfl,rfl,trivial⟩ ⟨hE0,oM,oM⟩ ?_))))))))
 clear hE0
 rintro ⟨j,l⟩ ρ1 w1 ⟨hE1,hp1_0,hq⟩
 have hzs1:w.heap.size≤w1.heap.size:=hE1.size
 refine wp_seq (wp_seq (wp_plain _ [0,0,0,0] rfl (lw_tv 2 rfl (q_len (v:=va) u34 rfl ha.isSl zN ?_))))
 by_cases hc2:((j :Nat):Int) < ((a.length :Nat):Int)
 ·
  refine q_lss true rfl rfl (decide_eq_true hc2) zN (lw_nil (c_cond_t rfl (wp_skip (wp_seq (wp_block (wp_seq (wp_seq (wp_plain _ [0,0,0,0,2,0,0] rfl ?_))))))))
  have hav:=mkAv_kind hak (i:=j) oM
  refine lw_tv 2 rfl (q_idx (v:=va) j u34 tiS55 rfl rfl ha.isSl rfl sD zN ?_)
  obtain ⟨cs3,hr3,hl3⟩:=ha.get good_rAv Av.zero (k:=j) sD
  obtain ⟨rfl,hx3⟩:=rn_av hr3
  refine q_fldL (p:=eptr va j 2) 0 fd55_0 rfl (hl3 _ (Chg.of_ext [] hE1)) zN (q_load (p:=(padd (eptr va j 2) 0)) (.inr rfl) (.int .i64 ((a.getD j Av.zero).kind)) one2 rfl ((hl3 _ (Chg.of_ext [] hE1)).ld (i:=0) (by first | (simp [exC,fnC]; done) | simp [inC])) zN (lw_tv 1 rfl ?_))
  have hc4:¬ ((a.getD j Av.zero).kind≠l):=(fun h9=>h9 oM)
  refine q_neq false rfl rfl (decide_eq_false hc4) zN (lw_nil (c_cond_f rfl (wp_skip (wp_seq (wp_plain _ [0,0,0] rfl (lw_tv 1 rfl (q_add (l + 1) rfl rfl (w64 oM oM) zN (lw_tvn 1 rfl (wp_seq (wp_seq (wp_plain _ [0,0,0,0,2,0,0] rfl ?_)))))))))))
  have hav:=mkAv_kind hak (i:=j) oM
  refine lw_tv 2 rfl (q_idx (v:=va) j u34 tiS55 rfl rfl ha.isSl rfl sD zN (q_fldL (p:=eptr va j 2) 1 fd55_1 rfl (hl3 _ (Chg.of_ext [] hE1)) zN (q_load (p:=(padd (eptr va j 2) 1)) (.inr rfl) (.int .i64 ((a.getD j Av.zero).arg)) one2 rfl ((hl3 _ (Chg.of_ext [] hE1)).ld (i:=1) (by first | (simp [exC,fnC]; done) | simp [inC])) zN (lw_tv 1 rfl ?_))))
  have hc5:¬ ((a.getD j Av.zero).arg≠l + 1):=(fun h9=>h9 oM)
  exact q_neq false rfl rfl (decide_eq_false hc5) zN (lw_nil (c_cond_f rfl (wp_skip (wp_plain _ [0,0,0] rfl (lw_tv 1 rfl (q_add (l + 1 + 1) rfl rfl (w64 oM oM) zN (lw_tvn 1 rfl (wp_plain _ [0,0,0] rfl (lw_tv 1 rfl (q_add ((j + 1 :Nat):Int) rfl rfl (w64n oM oM) zN (lw_tvn 1 rfl ⟨((j + 1),(l + 1 + 1)),_,rfl,⟨rfl,rfl,rfl,trivial⟩,⟨hE1,oM,oM⟩,by first | omega | (dsimp only; omega)⟩)))))))))))
 ·
  exact q_lss false rfl rfl (decide_eq_false hc2) zN (lw_nil (c_cond_f rfl (wp_exit (t_exit (t_exit (c_exit_here (wp_seq (wp_plain _ [0,0] rfl (lw_tvn 2 rfl (wp_ret (post_ret [4] rfl (.int .i64 l) rfl ⟨(ret_int oM),hE1⟩)))))))))))
theorem c_laws_FnExactReadSchedule (w:World) (s:ByteArray)  (hG:GW w) :
  Calls Tryd.prog 4 #[.string s] w (fun e w'=>e = .returned (.bool true)∧Ext w w'):=by
 refine calls_mk [.string s] 66 Tryd.func4 rfl rfl sM ?_
 have hE0:Ext w w:=Ext.refl w
 refine wp_seq (wp_plain _ [0] rfl (lw_tvn 1 rfl (wp_seq (wp_seq (wp_plain _ [0,0,0] rfl (lw_tv 1 rfl (q_lens (s:=s) u9 rfl zN ?_)))))))
 by_cases hc1:((1048576 :Nat):Int) < ((s.size :Nat):Int)
 ·
  exact q_gtr true rfl rfl (decide_eq_true hc1) zN (lw_nil (c_cond_t rfl (wp_seq (wp_plain _ [0] rfl (lw_tvn 1 rfl (wp_ret (t_ret (post_ret [2] rfl (.bool true) rfl (by exact ⟨rfl,hE0⟩)))))))))
 ·
  refine q_gtr false rfl rfl (decide_eq_false hc1) zN (lw_nil (c_cond_f rfl (wp_skip (wp_seq (wp_plain _ [0,3,0,0,0,0,0] rfl (lw_tv 1 rfl (lw_call 12 [] [] [(.string s)] rfl rfl cf12 zN (c_spec_ReadSchedule _ (s) oM) ?_)))))))
  rintro e2 w2 ⟨v2,rfl,hX2,hO2⟩
  refine ⟨_,rfl,hX2,?_⟩
  have hzs2:w.heap.size≤w2.heap.size:=hX2.size
  have hE2:Ext w w2:=hE0.trans hX2
  refine lw_tv 1 rfl (q_extract (vs:=[v2,(.int .i64 (rsC (s).data.toList))]) v2 rfl rfl zN (q_extract (vs:=[v2,(.int .i64 (rsC (s).data.toList))]) (.int .i64 (rsC (s).data.toList)) rfl rfl zN (lw_tvn 2 rfl (wp_seq (wp_plain _ [0,3,0,0,0,0,0] rfl (lw_tv 1 rfl (lw_call 13 [] [] [(.string s)] rfl rfl cf13 zN (c_impl_ReadSchedule _ (s) oM (hG.ext hE2)) ?_)))))))
  rintro e3 w3 ⟨v3,rfl,hX3,hO3⟩
  refine ⟨_,rfl,hX3,?_⟩
  have hzs3:w2.heap.size≤w3.heap.size:=hX3.size
  have hE3:Ext w w3:=hE2.trans hX3
  have hO2x3:=hO2.ext ((good_owS good_rAv)) hX3
  refine lw_tv 1 rfl (q_extract (vs:=[v3,(.int .i64 (rsC (s).data.toList))]) v3 rfl rfl zN (q_extract (vs:=[v3,(.int .i64 (rsC (s).data.toList))]) (.int .i64 (rsC (s).data.toList)) rfl rfl zN (lw_tvn 2 rfl (wp_seq (wp_seq (wp_plain _ [0,0,3,0,0,0,0,0,0] rfl (lw_tv 2 rfl (lw_call 14 [] [] [v3,v2] rfl rfl cf14 zN (c_laws_eqActionS _ v3 (rsQ (s).data.toList) v2 (rsQ (s).data.toList) (RN.of_frA (S:=[]) hO3 (fun b hb=>by cases hb)) (RN.of_frA (S:=[]) hO2x3 (fun b hb=>by cases hb)) (by rfl) (by exact Nat.le_trans (rsQ_len _) oM)) ?_))))))))
  rintro e4 w4 ⟨rfl,hX4⟩
  refine ⟨_,rfl,hX4,?_⟩
  have hzs4:w3.heap.size≤w4.heap.size:=hX4.size
  have hE4:Ext w w4:=hE3.trans hX4
  have hO2x4:=hO2x3.ext ((good_owS good_rAv)) hX4
  have hO3x4:=hO3.ext ((good_owS good_rAv)) hX4
  refine q_not false rfl rfl zN (lw_tv 3 rfl (q_neq false rfl rfl sM (zS (e:=28) rfl rfl rfl) (lw_tvn 1 rfl (c_cond_f rfl (wp_skip (wp_seq (wp_plain _ [0] rfl (lw_tvn 1 rfl (wp_seq (wp_plain _ [0,0,4,0] rfl (lw_tv 2 rfl ?_)))))))))))
  obtain ⟨F5,ho5,hn5,hF5⟩:=hO3x4
  refine lw_callE 15 [] [] [v3,(.int .i64 ((1 :Nat):Int))] rfl rfl cf15 zN (c_laws_markActionS _ v3 (rsQ (s).data.toList) F5 (((1 :Nat):Int)) ho5 hn5 oM (by have:=rsQ_len s.data.toList; omega)) ?_
  rintro e5 w5 ⟨rfl,hC5,hO5⟩
  refine ⟨_,rfl,?_⟩
  have hN5:Fr (owS 2 rAv 55) w2.heap.size w3.heap.size w5.heap v3 (mkAv (((1 :Nat):Int)) (rsQ (s).data.toList).length):=⟨F5,hO5,hn5,hF5⟩
  have hzs5:w4.heap.size≤w5.heap.size:=hC5.size
  have hE5:Ext w w5:=hC5.below hE4 (fun c hc=>by have:=hF5 _ hc; omega) hE4.size
  have hF6:=hO2x4.chg ((good_owS good_rAv)) hC5 (fun c hc=>by have:=hF5 _ hc; omega)
  refine lw_tvn 1 rfl (wp_seq (wp_plain _ [0] rfl (lw_tvn 1 rfl (wp_seq (wp_plain _ [0,0,3,0] rfl (lw_tv 2 rfl (lw_call 16 [] [] [v3,(.int .i64 ((1 :Nat):Int))] rfl rfl cf16 zN (c_laws_heldActionS _ v3 (mkAv (((1 :Nat):Int)) (rsQ (s).data.toList).length) _ (RN.of_frA (S:=[]) hN5 (fun b hb=>by cases hb)) oM (by rw [mkAv_len]) (by rw [mkAv_len]; have:=rsQ_len s.data.toList; omega)) ?_)))))))
  rintro e7 w7 ⟨rfl,hX7⟩
  refine ⟨_,rfl,hX7,?_⟩
  have hzs7:w5.heap.size≤w7.heap.size:=hX7.size
  have hE7:Ext w w7:=hE5.trans hX7
  have hF6x7:=hF6.ext ((good_owS good_rAv)) hX7
  have hN5x7:=hN5.ext ((good_owS good_rAv)) hX7
  refine lw_tvn 1 rfl (wp_seq (wp_seq (wp_plain _ [0,0] rfl (lw_tv 1 rfl ?_))))
  have hc8:¬ (((1 :Nat):Int) + 2 * (((mkAv (((1 :Nat):Int)) (rsQ (s).data.toList).length).length :Nat):Int) < ((0 :Nat):Int)):=oM
  refine q_lss false rfl rfl (decide_eq_false hc8) zN (lw_nil (c_cond_f rfl (wp_skip (wp_seq (wp_seq (wp_plain _ [0,0,0] rfl (lw_tv 2 rfl ?_)))))))
  have hc9:¬ (((1 :Nat):Int) + 2 * (((mkAv (((1 :Nat):Int)) (rsQ (s).data.toList).length).length :Nat):Int)≠((1 :Nat):Int) + 2 * (((rsQ (s).data.toList).length :Nat):Int)):=(fun h9=>h9 (by rw [mkAv_len]))
  refine q_neq false rfl rfl (decide_eq_false hc9) zN (lw_nil (c_cond_f rfl (wp_skip (wp_seq (wp_plain _ [0,3,0,0,0,0,0] rfl (lw_tv 1 rfl (lw_call 13 [] [] [(.string s)] rfl rfl cf13 zN (c_impl_ReadSchedule _ (s) oM (hG.ext hE7)) ?_)))))))
  rintro e10 w10 ⟨v10,rfl,hX10,hO10⟩
  refine ⟨_,rfl,hX10,?_⟩
  have hzs10:w7.heap.size≤w10.heap.size:=hX10.size
  have hE10:Ext w w10:=hE7.trans hX10
  have hF6x10:=hF6x7.ext ((good_owS good_rAv)) hX10
  have hN5x10:=hN5x7.ext ((good_owS good_rAv)) hX10
  refine lw_tv 1 rfl (q_extract (vs:=[v10,(.int .i64 (rsC (s).data.toList))]) v10 rfl rfl zN (q_extract (vs:=[v10,(.int .i64 (rsC (s).data.toList))]) (.int .i64 (rsC (s).data.toList)) rfl rfl zN (lw_tvn 2 rfl (wp_seq (wp_seq (wp_plain _ [0,0,3,0,0,0,0,0,0] rfl (lw_tv 2 rfl (lw_call 14 [] [] [v10,v2] rfl rfl cf14 zN (c_laws_eqActionS _ v10 (rsQ (s).data.toList) v2 (rsQ (s).data.toList) (RN.of_frA (S:=[]) hO10 (fun b hb=>by cases hb)) (RN.of_frA (S:=[]) hF6x10 (fun b hb=>by cases hb)) (by rfl) (by exact Nat.le_trans (rsQ_len _) oM)) ?_))))))))
  rintro e11 w11 ⟨rfl,hX11⟩
  refine ⟨_,rfl,hX11,?_⟩
  have hzs11:w10.heap.size≤w11.heap.size:=hX11.size
  have hE11:Ext w w11:=hE10.trans hX11
  have hN5x11:=hN5x10.ext ((good_owS good_rAv)) hX11
  refine q_not false rfl rfl zN (lw_tv 3 rfl (q_neq false rfl rfl sM (zS (e:=53) rfl rfl rfl) (lw_tvn 1 rfl (c_cond_f rfl (wp_skip (wp_seq (wp_plain _ [0] rfl (lw_tvn 1 rfl (wp_seq (wp_plain _ [0,0,3,0] rfl (lw_tv 2 rfl (lw_call 16 [] [] [v3,(.int .i64 ((1 :Nat):Int))] rfl rfl cf16 zN (c_laws_heldActionS _ v3 (mkAv (((1 :Nat):Int)) (rsQ (s).data.toList).length) _ (RN.of_frA (S:=[]) hN5x11 (fun b hb=>by cases hb)) oM (by rw [mkAv_len]) (by rw [mkAv_len]; have:=rsQ_len s.data.toList; omega)) ?_))))))))))))
  rintro e12 w12 ⟨rfl,hX12⟩
  refine ⟨_,rfl,hX12,?_⟩
  have hzs12:w11.heap.size≤w12.heap.size:=hX12.size
  have hE12:Ext w w12:=hE11.trans hX12
  refine lw_tvn 1 rfl (wp_seq (wp_seq (wp_plain _ [0,0] rfl (lw_tv 1 rfl ?_))))
  have hc13:¬ (((1 :Nat):Int) + 2 * (((mkAv (((1 :Nat):Int)) (rsQ (s).data.toList).length).length :Nat):Int) < ((0 :Nat):Int)):=oM
  refine q_lss false rfl rfl (decide_eq_false hc13) zN (lw_nil (c_cond_f rfl (wp_skip (wp_seq (wp_seq (wp_plain _ [0,0,0] rfl (lw_tv 2 rfl ?_)))))))
  have hc14:¬ (((1 :Nat):Int) + 2 * (((mkAv (((1 :Nat):Int)) (rsQ (s).data.toList).length).length :Nat):Int)≠((1 :Nat):Int) + 2 * (((rsQ (s).data.toList).length :Nat):Int)):=(fun h9=>h9 (by rw [mkAv_len]))
  exact q_neq false rfl rfl (decide_eq_false hc14) zN (lw_nil (c_cond_f rfl (wp_skip (wp_seq (wp_plain _ [0] rfl (lw_tvn 1 rfl (wp_ret (post_ret [2] rfl (.bool true) rfl (by exact ⟨rfl,hE12⟩)))))))))
end Go.Proofs.YtlbefjfhfodnlaaDoor
