/- The proof that the law's row holds, part 6: the kit's words, the printed walks and the plain law. No conditions beyond the card's own. -/
import Derived.Test.YtldhkbiomingbaaGreatDoorE0
import Derived.Test.YtldhkbiomingbaaGreatDoorE1
import Derived.Test.YtldhkbiomingbaaGreatDoorE2
import Derived.Test.YtldhkbiomingbaaGreatDoorE3
import Derived.Test.YtldhkbiomingbaaGreatDoorE4
import Derived.Test.YtldhkbiomingbaaGreatDoorE5
set_option linter.unusedVariables false
set_option linter.unusedSimpArgs false
set_option maxHeartbeats 8000000
set_option maxRecDepth 100000
namespace Go.Proofs.YtldhkbiomingbaaGreatDoor.F
open Go.Proofs.YtldhkbiomingbaaGreatDoor
open Go.RowKit Go.YW.PrintWords Go.YW.PrintLast Go.YW.PrintMore
attribute [local go_sem] max2_int min2_int
def impl_ReachedTrays.f (a0:ByteArray):Option (List ByteArray × Bool):=(impl_reachOf.f a0).bind fun q=>if q.1.length < 65536 then some (sortB q.1,q.2.2.2.2) else none
theorem impl_ReachedTrays.calls (a0:ByteArray) (r1:List ByteArray) (r2:Bool) (w:World) (h:impl_ReachedTrays.f a0 = some (r1,r2)) :
  Calls Tryz.prog 38 #[.string a0] w fun e w'=>∃ v0_:Value,e = .returned (.tuple #[v0_,.bool r2]) ∧ Kd.R Kd.string 9 w' w.heap.size (fun _=>True) v0_ r1 ∧ Below w.heap.size w w':=by
 unfold impl_ReachedTrays.f at h
 obtain ⟨⟨t1,t2,t3,t4,t5⟩,hr,h⟩:=Option.bind_eq_some_iff.mp h
 by_cases hl:t1.length < 65536
 rotate_left
 ·rw [if_neg hl] at h;cases h
 have h':sortB t1 = r1 ∧ t5 = r2:=by rw [if_pos hl] at h;exact Prod.mk.inj (Option.some.inj h)
 obtain ⟨rfl,rfl⟩:=h'
 have HR:=am hr
 have HL:=am hl
 clear h hr hl
 go_enter Tryz.func38,Tryz.ntmps38
 go_wp2_with (first
  | (go_at_call 74;refine (impl_reachOf.calls a0 _ _ _ _ _ _ HR.out).mono ?_;rintro e w1 ⟨v0,v1,v2,v3,rfl,ho0,ho1,ho2,ho3,hb1⟩;obtain ⟨A0,c0,rfl⟩:=Kd.R_slice ho0;obtain ⟨A1,c1,rfl⟩:=Kd.R_slice ho1;obtain ⟨A2,c2,rfl⟩:=Kd.S_slice ho2;obtain ⟨A3,c3,rfl⟩:=Kd.R_slice ho3;have HO0:=am (R_true ho0);have HB1:=am hb1;clear ho0 ho1 ho2 ho3 hb1)
  | (refine bx 4 #[.slice none 0 0,.slice none 0 0,.slice none 0 0,.slice none 0 0] 59 ?_;intro b4 hg4 w2 hbox2 hb2;obtain ⟨y0,y1,y2,y3,f0,f1,f2,f3⟩:=blk4_ hbox2;have X2:=am hbox2;have HB2:=am hb2;have G4:=am hg4;clear hg4 hbox2 hb2)
  | ((with_reducible refine gate_dst (N:=11) rfl ?_);obtain ⟨w3,hw3⟩:∃ w3,set4 w2 b4 (.slice A0 t1.length c0) (.slice A1 t2.length c1) (.slice A2 t3.length c2) (.slice A3 t4.length c3) = w3:=⟨_,rfl⟩;unfold set4 at hw3;rw [hw3];have HW3:=am (show set4 w2 b4 (.slice A0 t1.length c0) (.slice A1 t2.length c1) (.slice A2 t3.length c2) (.slice A3 t4.length c3) = w3 by unfold set4;exact hw3);clear hw3 y0 y1 y2 y3 f0 f1 f2 f3;have HKP:=am (fun k (hk:k < w1.heap.size)=>by rw [← HW3.out,heap_set4 _ _ _ _ _ _ (by rw [G4.out];omega),HB2.out.block k hk]:∀ k,k < w1.heap.size → w3.heap[k]? = w1.heap[k]?);have HO3:=am (Kd.R_step HO0.out (fun k _ hk=>HKP.out k hk));have hx3:=blk_set4 X2.out (.slice A0 t1.length c0) (.slice A1 t2.length c1) (.slice A2 t3.length c2) (.slice A3 t4.length c3);rw [HW3.out] at hx3;have X3:=am hx3;obtain ⟨y0,y1,y2,y3,f0,f1,f2,f3⟩:=blk4_ hx3;have HG4:=am (show w.heap.size ≤ b4 by rw [G4.out];exact HB1.out.size);have HB3:=am (show Below w.heap.size w w3 by rw [← HW3.out];exact below_set4 (below_step HB1.out HB2.out) HG4.out _ _ _ _);clear hx3)
  | (go_at_call 75;refine (sort_string_calls HO3.out (by have:=HL.out;omega)).mono ?_;rintro e w4 ⟨rfl,ho4,hb4,hs4,hk4⟩;have HO4:=am ho4;have HB4:=am (hb4 _ HB3.out (Nat.le_refl _));clear y0 y1 y2 y3 f0 f1 f2 f3;have y0:w4.cell? ⟨b4,0,none⟩ = some (.slice A0 t1.length c0):=(blk_cell ((hk4 b4 (blk_lt X3.out) (Kd.R_ne HO3.out X3.out d_c)).trans X3.out) 0).trans rfl;clear ho4 hb4 hs4 hk4))
 go_ret2
 exact ⟨_,rfl,HO4.out,HB4.out⟩
end Go.Proofs.YtldhkbiomingbaaGreatDoor.F

namespace Go.Proofs.YtldhkbiomingbaaGreatDoor.F
open Go.Proofs.YtldhkbiomingbaaGreatDoor
open Go.RowKit Go.YW.PrintWords Go.YW.PrintLast Go.YW.PrintMore
attribute [local go_sem] max2_int min2_int max_two min_two max_three min_three max_four min_four
def impl_reach_cells.l0:Nat → ByteArray → List Int → List ByteArray → Int → Int → Option (List Int)
 | 0,_,_,_,_,_=>none
 | k + 1,x1,x5,x10,x11,x12=>if x12 < x11 then (if 0 ≤ x12 then (if x12 < (x10.length:Int) then ((impl_read.f (rdOf ByteArray.empty x10 x12)).bind fun bt106=>(if 0 < (x1.size:Int) then ((slices_Index_byte_byte.f k bt106.2.2 (bt x1 0)).bind fun t111=>(if x5.length < 17592186044416 then (impl_reach_cells.l0 k x1 (x5 ++ [t111]) x10 x11 (wrap64 (x12 + 1))) else (none))) else (none))) else (none)) else (none)) else (some x5)
theorem impl_reach_cells.mono_l:∀ k,(∀ y0 y1 y2 y3 y4,LeO (impl_reach_cells.l0 k y0 y1 y2 y3 y4) (impl_reach_cells.l0 (k + 1) y0 y1 y2 y3 y4))
 | 0=>fun _ _ _ _ _ r h=>by simp [impl_reach_cells.l0] at h
 | k + 1=>by
  have ih0:=impl_reach_cells.mono_l k
  ·intro y0 y1 y2 y3 y4
   unfold impl_reach_cells.l0
   have im0:=@slices_Index_byte_byte.mono;exact mo
def slices_Index_int_int.l0:Nat → List Int → Int → Int → Int → Option (Int)
 | 0,_,_,_,_=>none
 | k + 1,x0,x1,x7,x8=>if x8 < x7 then (if 0 ≤ x8 then (if x8 < (x0.length:Int) then (if x1 = (rd x0 x8) then (some x8) else (slices_Index_int_int.l0 k x0 x1 x7 (wrap64 (x8 + 1)))) else (none)) else (none)) else (some (-1))
theorem slices_Index_int_int.mono_l:∀ k,(∀ y0 y1 y2 y3,LeO (slices_Index_int_int.l0 k y0 y1 y2 y3) (slices_Index_int_int.l0 (k + 1) y0 y1 y2 y3))
 | 0=>fun _ _ _ _ r h=>by simp [slices_Index_int_int.l0] at h
 | k + 1=>by
  have ih0:=slices_Index_int_int.mono_l k
  ·intro y0 y1 y2 y3
   unfold slices_Index_int_int.l0
   exact mo

end Go.Proofs.YtldhkbiomingbaaGreatDoor.F

namespace Go.Proofs.YtldhkbiomingbaaGreatDoor.F
open Go.Proofs.YtldhkbiomingbaaGreatDoor
open Go.RowKit Go.YW.PrintWords Go.YW.PrintMore
theorem placeI_read {w h:Nat} {c:List Int} (v:Vg (w,h,c)):impl_read.f (textB (w,h,c)) = some ((w:Int),(h:Int),c):=impl_read_eq _ (grid_textB v)
theorem cells_l0 {w h:Nat} {s:RS} {n:ByteArray} (hn:n.size = 1) (hv:∀ c ∈ s.T,Vg (w,h,c)) (hl:s.T.length ≤ 300):∀ (d i:Nat),i + d = s.T.length →
  Ev (fun k=>impl_reach_cells.l0 k n ((cellsI s (bt n 0)).take i) (rT w h s) ((rT w h s).length:Int) i) (cellsI s (bt n 0))
 | 0,i,hi=>by
  refine Ev.step (f:=fun _=>some (cellsI s (bt n 0))) (fun k=>?_) (Ev.now _)
  rw [impl_reach_cells.l0,if_neg (by rw [rT_len];omega),List.take_of_length_le (by rw [cellsI_len];omega)]
 | d + 1,i,hi=>by
  have hlt:i < s.T.length:=by omega
  have ih:=cells_l0 hn hv hl d (i + 1) o_m
  have hvi:=hv _ (getD_mem (d:=([]:List Int)) hlt)
  have hrd:rdOf ByteArray.empty (rT w h s) (i:Int) = textB (w,h,s.T.getD i []):=by
   unfold rdOf rT
   rw [Int.toNat_natCast,List.getD_eq_getElem?_getD,List.getElem?_map,List.getElem?_eq_getElem hlt,getD_lt hlt];rfl
  have hll:=(tray_small hvi).2
  simp only at hll
  have hix:=index_l0 (cs:=s.T.getD i []) o_m (bt n 0) _ 0 (Nat.zero_add _) (fun j hj=>by omega)
  have htk:(cellsI s (bt n 0)).take i ++ [placeI (bt n 0) (s.T.getD i [])] = (cellsI s (bt n 0)).take (i + 1):=by
   rw [List.take_succ_eq_append_getElem (by rw [cellsI_len];exact hlt),← cellsI_get s (bt n 0) hlt,getD_lt (by rw [cellsI_len];exact hlt)]
  refine Ev.step (f:=fun k=>(slices_Index_byte_byte.f k (s.T.getD i []) (bt n 0)).bind fun t111=>(if ((cellsI s (bt n 0)).take i).length < 17592186044416 then (impl_reach_cells.l0 k n ((cellsI s (bt n 0)).take i ++ [t111]) (rT w h s) ((rT w h s).length:Int) (wrap64 ((i:Int) + 1))) else none)) (fun k=>?_) ?_
  ·rw [impl_reach_cells.l0,if_pos (by rw [rT_len];omega),if_pos o_m,if_pos (by rw [rT_len];omega),hrd,placeI_read hvi,Option.bind_some,if_pos o_m]
  ·refine Ev.bind hix (Ev.congr (fun k=>?_) ih)
   rw [if_pos (by rw [List.length_take];omega)]
   show impl_reach_cells.l0 k n (_ ++ [placeI (bt n 0) (s.T.getD i [])]) _ _ _ = _
   rw [htk,show (i:Int) + 1 = ((i + 1:Nat):Int) by omega,w64t o_m]
end Go.Proofs.YtldhkbiomingbaaGreatDoor.F

namespace Go.Proofs.YtldhkbiomingbaaGreatDoor.F
open Go.Proofs.YtldhkbiomingbaaGreatDoor
open Go.RowKit Go.YW.PrintWords Go.YW.PrintLast Go.YW.PrintMore
attribute [local go_sem] max2_int min2_int max_two min_two max_three min_three max_four min_four


end Go.Proofs.YtldhkbiomingbaaGreatDoor.F

namespace Go.Proofs.YtldhkbiomingbaaGreatDoor.F
open Go.Proofs.YtldhkbiomingbaaGreatDoor
open Go.RowKit Go.YW.PrintWords Go.YW.PrintMore
theorem reachOf_some {t:ByteArray} {w h:Nat} {s:RS} (ht:t.size < 4294967281) (hs:srch t = some (w,h,s)):impl_reachOf.f t = some (rT w h s,castsI s.F,s.N.map castsI,rW s,true):=by
 unfold impl_reachOf.f
 rw [if_pos ht,hs]
theorem reachOf_none {t:ByteArray} (ht:t.size < 4294967281) (hs:srch t = none):impl_reachOf.f t = some ([],[],[],[],false):=by
 unfold impl_reachOf.f
 rw [if_pos ht,hs]
end Go.Proofs.YtldhkbiomingbaaGreatDoor.F

namespace Go.Proofs.YtldhkbiomingbaaGreatDoor.F
open Go.Proofs.YtldhkbiomingbaaGreatDoor
open Go.RowKit Go.YW.PrintWords Go.YW.PrintLast Go.YW.PrintMore
attribute [local go_sem] max2_int min2_int max_two min_two max_three min_three max_four min_four
def laws_eqStringS.l0:Nat → List ByteArray → List ByteArray → Int → Option (Bool)
 | 0,_,_,_=>none
 | k + 1,x0,x1,x5=>if x5 < (x0.length:Int) then (if 0 ≤ x5 then (if x5 < (x1.length:Int) then (if (rdOf ByteArray.empty x0 x5).toList = (rdOf ByteArray.empty x1 x5).toList then (laws_eqStringS.l0 k x0 x1 (wrap64 (x5 + 1))) else (some false)) else (none)) else (none)) else (some true)
def laws_eqStringS.f (k:Nat) (l0:List ByteArray) (l1:List ByteArray):Option (Bool):=if (l0.length:Int) = (l1.length:Int) then (laws_eqStringS.l0 k l0 l1 0) else (some false)
theorem laws_eqStringS.mono_l:∀ k,(∀ y0 y1 y2,LeO (laws_eqStringS.l0 k y0 y1 y2) (laws_eqStringS.l0 (k + 1) y0 y1 y2))
 | 0=>fun _ _ _ r h=>by simp [laws_eqStringS.l0] at h
 | k + 1=>by
  have ih0:=laws_eqStringS.mono_l k
  ·intro y0 y1 y2
   unfold laws_eqStringS.l0
   exact mo
theorem laws_eqStringS.mono:∀ a0 a1 k,LeO (laws_eqStringS.f k a0 a1) (laws_eqStringS.f (k + 1) a0 a1):=by
 intro a0 a1 k
 have ih0:=laws_eqStringS.mono_l k
 unfold laws_eqStringS.f
 exact mo
theorem laws_eqStringS.calls (k:Nat) (A0:Option Addr) (c0:Nat) (l0:List ByteArray) (A1:Option Addr) (c1:Nat) (l1:List ByteArray) (r:Bool) (w:World) (hr0:Kd.C Kd.string w A0 l0.length l0) (hc0:l0.length ≤ c0) (hr1:Kd.C Kd.string w A1 l1.length l1) (hc1:l1.length ≤ c1) (h:laws_eqStringS.f k l0 l1 = some r) :
  Calls Tryz.prog 26 #[.slice A0 l0.length c0,.slice A1 l1.length c1] w fun e w'=>e = .returned (.bool r) ∧ Drawn0 w w':=by
 have HR0:=am hr0
 have HC0:=am hc0
 clear hr0 hc0
 have HR1:=am hr1
 have HC1:=am hc1
 clear hr1 hc1
 have H:(if (l0.length:Int) = (l1.length:Int) then (laws_eqStringS.l0 k l0 l1 0) else (some false)) = some r:=h
 clear h
 by_cases c3:(l0.length:Int) = (l1.length:Int)
 rotate_left
 ·rw [if_neg c3] at H
  have c3b0:=beq_eq_false_iff_ne.mpr c3
  have c3b1:=bne_iff_ne.mpr c3
  have c3b2:(l0.length == l1.length) = false:=by first | simpa using c3 | (simp at c3 ⊢;omega)
  obtain rfl:=Option.some.inj H
  go_enter Tryz.func26,Tryz.ntmps26
  go_wp2
  repeat (go_quiet (fail);try go_wp2)
  go_ret
  exact ⟨aq6,aq14⟩
 rw [if_pos c3] at H
 have c3b0:=beq_iff_eq.mpr c3
 have c3b1:=bne_eq_false_iff_eq.mpr c3
 have c3b2:(l0.length == l1.length) = true:=by first | simpa using c3 | (simp at c3 ⊢;omega)
 clear c3
 have H':=am H
 clear H
 go_enter Tryz.func26,Tryz.ntmps26
 go_wp2
 repeat (go_quiet (fail);try go_wp2)
 go_loopg [5] k (fun kq v5 w'=>∃ (x5_1:Int),v5 = .int .i64 x5_1 ∧ Aside0 (laws_eqStringS.l0 kq l0 l1 x5_1 = some r) ∧ Aside0 (kq ≤ k) ∧ Drawn0 w w')
 case atStart=>exact ⟨(0),aq6,H',⟨Nat.le_refl _⟩,aq14⟩
 case round =>
  clear H'
  try clear c1
  try clear c2
  try clear p2
  try clear c3
  try clear c3b0
  try clear c3b1
  try clear c3b2
  obtain ⟨x5_1,rfl,HA,HK1,⟨m1,rfl⟩⟩:=hrel
  cases gk with
  | zero=>exact absurd HA.out (by simp [laws_eqStringS.l0])
  | succ k1 =>
   have H:=HA.out
   clear HA
   simp only [laws_eqStringS.l0] at H
   by_cases c4:x5_1 < (l0.length:Int)
   rotate_left
   ·rw [if_neg c4] at H
    have c4b0:=decide_eq_false c4
    clear c4
    obtain rfl:=Option.some.inj H
    go_wp2
    repeat (go_quiet (fail);try go_wp2)
    go_ret
    exact ⟨aq6,aq14⟩
   rw [if_pos c4] at H
   have c4b0:=decide_eq_true c4
   clear c4
   replace H:=gd H
   obtain ⟨c5,H⟩:=H
   have c5b0:=decide_eq_true c5
   clear c5
   replace H:=gd H
   obtain ⟨c6,H⟩:=H
   have c6b0:=decide_eq_true c6
   clear c6
   by_cases c7:(rdOf ByteArray.empty l0 x5_1).toList = (rdOf ByteArray.empty l1 x5_1).toList
   rotate_left
   ·rw [if_neg c7] at H
    have c7b0:=beq_eq_false_iff_ne.mpr c7
    have c7b1:=bne_iff_ne.mpr c7
    obtain rfl:=Option.some.inj H
    have p101:0 ≤ (x5_1:Int):=of_decide_eq_true aq4
    have q101:x5_1 < (l0.length:Int):=of_decide_eq_true aq4
    obtain ⟨ad101,e101,hx101_0⟩:=Kd.at_string HR0.out x5_1 p101 q101
    cases e101
    replace p101:=eq_true p101
    replace q101:=eq_true q101
    have p102:0 ≤ (x5_1:Int):=of_decide_eq_true aq4
    have q102:x5_1 < (l1.length:Int):=of_decide_eq_true aq4
    obtain ⟨ad102,e102,hx102_0⟩:=Kd.at_string HR1.out x5_1 p102 q102
    cases e102
    replace p102:=eq_true p102
    replace q102:=eq_true q102
    go_wp2
    repeat (go_quiet (fail);try go_wp2)
    go_ret
    exact ⟨aq6,aq14⟩
   rw [if_pos c7] at H
   have c7b0:=beq_iff_eq.mpr c7
   have c7b1:=bne_eq_false_iff_eq.mpr c7
   clear c7
   have H':=am H
   clear H
   have p101:0 ≤ (x5_1:Int):=of_decide_eq_true aq4
   have q101:x5_1 < (l0.length:Int):=of_decide_eq_true aq4
   obtain ⟨ad101,e101,hx101_0⟩:=Kd.at_string HR0.out x5_1 p101 q101
   cases e101
   replace p101:=eq_true p101
   replace q101:=eq_true q101
   have p102:0 ≤ (x5_1:Int):=of_decide_eq_true aq4
   have q102:x5_1 < (l1.length:Int):=of_decide_eq_true aq4
   obtain ⟨ad102,e102,hx102_0⟩:=Kd.at_string HR1.out x5_1 p102 q102
   cases e102
   replace p102:=eq_true p102
   replace q102:=eq_true q102
   go_wp2
   repeat (go_quiet (fail);try go_wp2)
   go_roundg k1
   case measure=>have:=HK1.out;omega
   case rel=>exact ⟨(wrap64 (x5_1 + 1)),aq6,H',⟨aq54⟩,aq14⟩
def laws_markText.l0:Nat → Int → ByteArray → Option (ByteArray)
 | 0,_,_=>none
 | k + 1,x0,x3=>if x0 > 0 then ((some (([(wrap64 (48 + (Int.tmod x0 10))) % 256]:List Int):List Int)).bind fun y101=>(if (strOfNums y101).size + x3.size ≤ 9223372036854775807 then (laws_markText.l0 k (wrap64 (Int.tdiv x0 10)) ((strOfNums y101) ++ x3)) else (none))) else (if 1 + x3.size ≤ 9223372036854775807 then (some ((⟨#[109]⟩:ByteArray) ++ x3)) else (none))
def laws_markText.f (k:Nat) (a0:Int):Option (ByteArray):=if a0 ≤ 0 then (some (⟨#[109,48]⟩:ByteArray)) else (laws_markText.l0 k a0 (⟨#[]⟩:ByteArray))
theorem laws_markText.mono_l:∀ k,(∀ y0 y1,LeO (laws_markText.l0 k y0 y1) (laws_markText.l0 (k + 1) y0 y1))
 | 0=>fun _ _ r h=>by simp [laws_markText.l0] at h
 | k + 1=>by
  have ih0:=laws_markText.mono_l k
  ·intro y0 y1
   unfold laws_markText.l0
   exact mo
theorem laws_markText.mono:∀ a0 k,LeO (laws_markText.f k a0) (laws_markText.f (k + 1) a0):=by
 intro a0 k
 have ih0:=laws_markText.mono_l k
 unfold laws_markText.f
 exact mo
theorem laws_markText.calls (k:Nat) (a0:Int) (r:ByteArray) (w:World) (h:laws_markText.f k a0 = some r) :
  Calls Tryz.prog 62 #[.int .i64 a0] w fun e w'=>e = .returned (.string r) ∧ Below w.heap.size w w':=by
 have HB:=am (Below.refl w.heap.size w)
 have H:(if a0 ≤ 0 then (some (⟨#[109,48]⟩:ByteArray)) else (laws_markText.l0 k a0 (⟨#[]⟩:ByteArray))) = some r:=h
 clear h
 by_cases c2:a0 ≤ 0
 ·rw [if_pos c2] at H
  have c2b0:=decide_eq_true c2
  clear c2
  obtain rfl:=Option.some.inj H
  go_enter Tryz.func62,Tryz.ntmps62
  go_wp2
  go_ret
  exact ⟨aq8,aq1⟩
 rw [if_neg c2] at H
 have c2b0:=decide_eq_false c2
 clear c2
 have H':=am H
 clear H
 go_enter Tryz.func62,Tryz.ntmps62
 go_wp2
 go_loopg [0,3] k (fun kq v0 v3 w'=>∃ (x0_1:Int) (x3_1:ByteArray),v0 = .int .i64 x0_1 ∧ v3 = .string x3_1 ∧ Aside0 (laws_markText.l0 kq x0_1 x3_1 = some r) ∧ Aside0 (kq ≤ k) ∧ Aside0 (Below w.heap.size w w'))
 case atStart=>exact ⟨(a0),((⟨#[]⟩:ByteArray)),aq6,aq6,H',⟨Nat.le_refl _⟩,⟨aq1⟩⟩
 case round =>
  clear H'
  try clear c2
  try clear c2b0
  try clear p2
  obtain ⟨x0_1,x3_1,rfl,rfl,HA,HK1,HB⟩:=hrel
  cases gk with
  | zero=>exact absurd HA.out (by simp [laws_markText.l0])
  | succ k1 =>
   have H:=HA.out
   clear HA
   simp only [laws_markText.l0] at H
   by_cases c3:x0_1 > 0
   rotate_left
   ·rw [if_neg c3] at H
    have c3b0:=decide_eq_false c3
    clear c3
    replace H:=gd H
    obtain ⟨c8,H⟩:=H
    have c8b0:=eq_true c8
    have c8b1:=decide_eq_true c8
    try have c8b2:(9223372036854775807 < 1 + x3_1.size) = False:=eq_false (Nat.not_lt.2 c8)
    obtain rfl:=Option.some.inj H
    go_wp2
    go_ret
    exact ⟨aq8,aq1⟩
   rw [if_pos c3] at H
   have c3b0:=decide_eq_true c3
   clear c3
   obtain ⟨y101,hy_⟩:∃ y_:List Int,y_ = (([(wrap64 (48 + (Int.tmod x0_1 10))) % 256]:List Int)):=⟨_,rfl⟩
   replace H:(if (strOfNums y101).size + x3_1.size ≤ 9223372036854775807 then (laws_markText.l0 k1 (wrap64 (Int.tdiv x0_1 10)) ((strOfNums y101) ++ x3_1)) else (none)) = some r:=aq3
   have Ny101:=am hy_
   clear hy_
   replace H:=gd H
   obtain ⟨c4,H⟩:=H
   have c4b0:=eq_true c4
   have c4b1:=decide_eq_true c4
   try have c4b2:(9223372036854775807 < (strOfNums y101).size + x3_1.size) = False:=eq_false (Nat.not_lt.2 c4)
   have H':=am H
   clear H
   go_wp2_with (first | ((with_reducible refine gate_dst (N:=12) rfl ?_);refine Kd.R_lit (Kd.int .u8) _ 5 ?hg (N:=12) ?hd (xs:=([(wrap64 (48 + (Int.tmod x0_1 10))) % 256]:List Int)) (inner:=[.int .u8 ((wrap64 (48 + (Int.tmod x0_1 10))) % 256)]) (ok:=fun _=>True) (okp:=fun _=>True) ?hr ?hp (fun _ hk=>hk) trivial (Below.refl _ _) (Nat.le_refl _) (by simp) ?_;(case hd=>rfl);(case hg=>rfl);(case hr=>exact aq16);(case hp=>exact (Reps.one (show Kd.M (Kd.int .u8) _ _ _ ((wrap64 (48 + (Int.tmod x0_1 10))) % 256) [.int .u8 ((wrap64 (48 + (Int.tmod x0_1 10))) % 256)] from rfl) (Reps.none _ _)));intro v102 w5 ho6 hb hg_ hnew_;clear hg_ hnew_;(first | rw [← Ny101.out] at ho6 | (simp only [Int.reduceToNat] at ho6;rw [← Ny101.out] at ho6));have HO103:=am (Kd.R_lower ho6 (below_size aq1));replace HB:=am (below_step aq1 hb);clear hb ho6;(first | have hcv7:=own_string (P:=Tryz.prog) Tryz.underlying63 Tryz.underlying5 Tryz.underlying9 (Kd.own_of_R HO103.out) | have hcv7:=(show ∀ {A:Option Addr} {n c:Nat} {xs:List Int} {ok:Nat → Prop} {W:World} {b:Nat},Kd.V (Kd.int .u8) 5 W b ok (.slice A n c) xs → (convert 63 9 (.slice A n c)).run Tryz.prog W = .ok (.string (strOfNums xs)) W from fun h=>by obtain ⟨rfl,_,hC⟩:=Kd.V_reads' h;exact Kd.C_string Tryz.underlying63 Tryz.underlying5 Tryz.underlying9 hC) HO103.out)))
   go_roundg k1
   case measure=>have:=HK1.out;omega
   case rel=>exact ⟨(wrap64 (Int.tdiv x0_1 10)),((strOfNums y101) ++ x3_1),aq6,aq6,H',⟨aq54⟩,⟨aq1⟩⟩
def laws_markStringS.l0:Nat → List ByteArray → Int → Int → Option (Int × List ByteArray)
 | 0,_,_,_=>none
 | k + 1,x0,x1,x5=>if x5 < (x0.length:Int) then ((laws_markText.f k x1).bind fun t101=>(if 0 ≤ x5 then (laws_markStringS.l0 k (x0.set (x5:Int).toNat t101) (wrap64 (x1 + 1)) (wrap64 (x5 + 1))) else (none))) else (some (x1,x0))
def laws_markStringS.f (k:Nat) (l0:List ByteArray) (a1:Int):Option (Int × List ByteArray):=laws_markStringS.l0 k l0 a1 0
theorem laws_markStringS.mono_l:∀ k,(∀ y0 y1 y2,LeO (laws_markStringS.l0 k y0 y1 y2) (laws_markStringS.l0 (k + 1) y0 y1 y2))
 | 0=>fun _ _ _ r h=>by simp [laws_markStringS.l0] at h
 | k + 1=>by
  have ih0:=laws_markStringS.mono_l k
  ·intro y0 y1 y2
   unfold laws_markStringS.l0
   have im0:=@laws_markText.mono;exact mo
theorem laws_markStringS.mono:∀ a0 a1 k,LeO (laws_markStringS.f k a0 a1) (laws_markStringS.f (k + 1) a0 a1):=by
 intro a0 a1 k
 have ih0:=laws_markStringS.mono_l k
 unfold laws_markStringS.f
 have im0:=@laws_markText.mono;exact mo
theorem laws_markStringS.calls (k:Nat) (P0_:Nat → Prop) (u9000_:Value) (l0:List ByteArray) (a1:Int) (r1:Int) (r2:List ByteArray) (w0 w:World) (hB:Below w0.heap.size w0 w) (ho0:Kd.R Kd.string 9 w w0.heap.size P0_ u9000_ l0) (h:laws_markStringS.f k l0 a1 = some (r1,r2)) :
  Calls Tryz.prog 27 #[u9000_,.int .i64 a1] w fun e w'=>e = .returned (.int .i64 r1) ∧ Kd.R Kd.string 9 w' w0.heap.size (fun k_=>(P0_ k_ ∨ w.heap.size ≤ k_)) u9000_ r2 ∧ Below w0.heap.size w0 w' ∧ Kept w w' (fun k_=>P0_ k_):=by
 have HO0:=am (show Kd.R Kd.string 9 w w0.heap.size (fun k_=>(P0_ k_ ∨ w.heap.size ≤ k_)) u9000_ l0 from Kd.R_mono ho0 (fun k_ hk=>(.inl hk)))
 have HK:=am (Kept.refl w (fun k_=>P0_ k_))
 have HW0:=am hB.size
 have HB:=am hB
 clear hB
 have H:(laws_markStringS.l0 k l0 a1 0) = some (r1,r2):=h
 clear h
 have H':=am H
 clear H
 go_enter Tryz.func27,Tryz.ntmps27
 go_wp2
 go_loopg [1,5] k (fun kq v1 v5 w'=>∃ (x0_1:List ByteArray) (x1_1:Int) (x5_1:Int),v1 = .int .i64 x1_1 ∧ v5 = .int .i64 x5_1 ∧ Aside0 (laws_markStringS.l0 kq x0_1 x1_1 x5_1 = some (r1,r2)) ∧ Aside0 (kq ≤ k) ∧ Aside0 (Kd.R Kd.string 9 w' w0.heap.size (fun k_=>(P0_ k_ ∨ w.heap.size ≤ k_)) u9000_ x0_1) ∧ Aside0 (Kept w w' (fun k_=>P0_ k_)) ∧ Aside0 (Below w0.heap.size w0 w'))
 case atStart=>exact ⟨(l0),(a1),(0),aq6,aq6,H',⟨Nat.le_refl _⟩,⟨by (with_reducible repeat (first | apply Kd.R_alloc | apply Kd.R_drewN | apply Kd.R_drew));exact HO0.out⟩,⟨aq23⟩,⟨aq1⟩⟩
 case round =>
  clear H'
  try clear c2
  try clear p2
  obtain ⟨x0_1,x1_1,x5_1,rfl,rfl,HA,HK1,HO_0,HK,HB⟩:=hrel
  cases gk with
  | zero=>exact absurd HA.out (by simp [laws_markStringS.l0])
  | succ k1 =>
   have H:=HA.out
   clear HA
   simp only [laws_markStringS.l0] at H
   by_cases c3:x5_1 < (x0_1.length:Int)
   rotate_left
   ·rw [if_neg c3] at H
    have c3b0:=decide_eq_false c3
    clear c3
    simp only [Option.some.injEq,Prod.mk.injEq] at H
    obtain ⟨rfl,rfl⟩:=H
    obtain ⟨Ao11,co11,eo11⟩:=Kd.R_slice HO_0.out
    subst eo11
    go_wp2
    go_ret
    exact ⟨aq8,aq33,aq1,aq23⟩
   rw [if_pos c3] at H
   have c3b0:=decide_eq_true c3
   clear c3
   obtain ⟨t101,A4,H⟩:=bn H
   replace H:=gd H
   obtain ⟨c5,H⟩:=H
   have c5b0:=decide_eq_true c5
   clear c5
   obtain ⟨y102,hy_⟩:∃ y_:List ByteArray,y_ = (x0_1.set (x5_1:Int).toNat t101):=⟨_,rfl⟩
   replace H:(laws_markStringS.l0 k1 y102 (wrap64 (x1_1 + 1)) (wrap64 (x5_1 + 1))) = some (r1,r2):=aq3
   have Ny102:=am hy_
   clear hy_
   have H':=am H
   clear H
   obtain ⟨Ao7,co7,eo7⟩:=Kd.R_slice HO_0.out
   subst eo7
   go_wp2_with (first | ((with_reducible refine gate_callee (f:=62) rfl ?_);refine goesL_ (some 15) rfl rfl Tryz.func62 k_r rfl #[.int .i64 x1_1] rfl aq7 ?_;(with_reducible refine (laws_markText.calls k1 x1_1 t101 _ A4.out).mono ?_);rintro e w8 ⟨rfl,hb⟩;refine ⟨_,rfl,?_⟩;replace HO_0:=am (Kd.R_below aq33 hb);replace HK:=am (Kept.below (S:=(fun k_=>P0_ k_)) aq23 hb);replace HB:=am (below_step aq1 hb);(try clear hb);have p6:0 ≤ (x5_1:Int):=of_decide_eq_true aq4;have q6:(x5_1:Int) < ((x0_1.length:Int):Int):=of_decide_eq_true aq4;obtain ⟨go6,co6,eo6,gb6,gl6,cl6,HG6⟩:=Kd.R_form HO_0.out o_m;(first | cases eo6 | (injection eo6 with ea_ en_ ec_;(first | subst ea_ | (injection ea_ with ea_;subst ea_));subst ec_;clear en_));have GB6:=am gb6;have GG6:=am HG6;clear gb6 gl6 HG6;have HMgo6:=am (show (P0_ go6 ∨ w.heap.size ≤ go6) from (HO_0.out.1 _ rfl));obtain ⟨hx6_0,hf6_0⟩:=Kd.R_celln (⟨#[]⟩:ByteArray) HO_0.out (x5_1:Int) p6 q6;replace p6:=eq_true p6;replace q6:=eq_true q6;obtain ⟨hy9_,hz9_⟩:=Kd.R_celln (⟨#[]⟩:ByteArray) HO_0.out (x5_1:Int) (of_decide_eq_true aq4) (of_decide_eq_true aq4);have HP9:=Kd.R_putg HO_0.out (x5_1:Int) t101) | ((with_reducible refine gate_store (t:=9) (p:=16) rfl ?_);refine store_event (t:=9) (p:=16) (v:=?vo_w10) (w1:=(w8.setCell ⟨go6,(x5_1:Int).toNat,none⟩ (.string t101))) ?hg ?ho ?hn ?hr ?_;(case ho=>rfl);(case hg=>rfl);(case hn=>rfl);(case hr=>exact aq16);intro w10 hw;have hg:w8.grownBy w10 (some go6):=(by rw [hw];exact HP9.2);have hp_:Kd.R Kd.string 9 w10 w0.heap.size (fun k_=>(P0_ k_ ∨ w.heap.size ≤ k_)) (.slice (some ⟨go6,0,none⟩) x0_1.length co7) y102:=(by rw [hw,Ny102.out];exact HP9.1);clear HP9;replace HB:=am ((by rw [hw];exact below_set (HB.out) GB6.out:Below w0.heap.size w0 w10));replace HK:=am (Kept.of_grown (S:=(fun k_=>P0_ k_)) hg aq23 (fun k_ e_=>(HO_0.out.1 k_ e_)));replace HO_0:=am (hp_);clear hg hw hp_))
   go_roundg k1
   case measure=>have:=HK1.out;omega
   case rel=>exact ⟨(y102),(wrap64 (x1_1 + 1)),(wrap64 (x5_1 + 1)),aq6,aq6,H',⟨aq54⟩,⟨aq33⟩,⟨aq23⟩,⟨aq1⟩⟩
def laws_heldStringS.l0:Nat → List ByteArray → Int → Int → Option (Int)
 | 0,_,_,_=>none
 | k + 1,x0,x1,x5=>if x5 < (x0.length:Int) then (if 0 ≤ x5 then ((laws_markText.f k x1).bind fun t102=>(if (rdOf ByteArray.empty x0 x5).toList = t102.toList then (laws_heldStringS.l0 k x0 (wrap64 (x1 + 1)) (wrap64 (x5 + 1))) else (some (-1)))) else (none)) else (some x1)
def laws_heldStringS.f (k:Nat) (l0:List ByteArray) (a1:Int):Option (Int):=laws_heldStringS.l0 k l0 a1 0
theorem laws_heldStringS.mono_l:∀ k,(∀ y0 y1 y2,LeO (laws_heldStringS.l0 k y0 y1 y2) (laws_heldStringS.l0 (k + 1) y0 y1 y2))
 | 0=>fun _ _ _ r h=>by simp [laws_heldStringS.l0] at h
 | k + 1=>by
  have ih0:=laws_heldStringS.mono_l k
  ·intro y0 y1 y2
   unfold laws_heldStringS.l0
   have im0:=@laws_markText.mono;exact mo
theorem laws_heldStringS.mono:∀ a0 a1 k,LeO (laws_heldStringS.f k a0 a1) (laws_heldStringS.f (k + 1) a0 a1):=by
 intro a0 a1 k
 have ih0:=laws_heldStringS.mono_l k
 unfold laws_heldStringS.f
 have im0:=@laws_markText.mono;exact mo
theorem laws_heldStringS.calls (k:Nat) (A0:Option Addr) (c0:Nat) (l0:List ByteArray) (a1:Int) (r:Int) (w:World) (hr0:Kd.C Kd.string w A0 l0.length l0) (hc0:l0.length ≤ c0) (h:laws_heldStringS.f k l0 a1 = some r) :
  Calls Tryz.prog 28 #[.slice A0 l0.length c0,.int .i64 a1] w fun e w'=>e = .returned (.int .i64 r) ∧ Below w.heap.size w w':=by
 have HR0:=am hr0
 have HC0:=am hc0
 clear hr0 hc0
 have HB:=am (Below.refl w.heap.size w)
 have H:(laws_heldStringS.l0 k l0 a1 0) = some r:=h
 clear h
 have H':=am H
 clear H
 go_enter Tryz.func28,Tryz.ntmps28
 go_wp2
 go_loopg [1,5] k (fun kq v1 v5 w'=>∃ (x1_1:Int) (x5_1:Int),v1 = .int .i64 x1_1 ∧ v5 = .int .i64 x5_1 ∧ Aside0 (laws_heldStringS.l0 kq l0 x1_1 x5_1 = some r) ∧ Aside0 (kq ≤ k) ∧ Aside0 (Below w.heap.size w w'))
 case atStart=>exact ⟨(a1),(0),aq6,aq6,H',⟨Nat.le_refl _⟩,⟨aq1⟩⟩
 case round =>
  clear H'
  try clear c2
  try clear p2
  obtain ⟨x1_1,x5_1,rfl,rfl,HA,HK1,HB⟩:=hrel
  cases gk with
  | zero=>exact absurd HA.out (by simp [laws_heldStringS.l0])
  | succ k1 =>
   have H:=HA.out
   clear HA
   simp only [laws_heldStringS.l0] at H
   by_cases c3:x5_1 < (l0.length:Int)
   rotate_left
   ·rw [if_neg c3] at H
    have c3b0:=decide_eq_false c3
    clear c3
    obtain rfl:=Option.some.inj H
    go_wp2
    go_ret
    exact ⟨aq8,aq1⟩
   rw [if_pos c3] at H
   have c3b0:=decide_eq_true c3
   clear c3
   replace H:=gd H
   obtain ⟨c4,H⟩:=H
   have c4b0:=decide_eq_true c4
   clear c4
   obtain ⟨t102,A5,H⟩:=bn H
   by_cases c6:(rdOf ByteArray.empty l0 x5_1).toList = t102.toList
   rotate_left
   ·rw [if_neg c6] at H
    have c6b0:=beq_eq_false_iff_ne.mpr c6
    have c6b1:=bne_iff_ne.mpr c6
    obtain rfl:=Option.some.inj H
    try go_wp2
    replace HB:=am (below_drew1 HB.out)
    have p101:0 ≤ (x5_1:Int):=of_decide_eq_true aq4
    have q101:x5_1 < (l0.length:Int):=of_decide_eq_true aq4
    obtain ⟨ad101,e101,hx101_0⟩:=Kd.at_string HR0.out x5_1 p101 q101
    have hw101_0:=hx101_0
    cases e101
    try replace hx101_0:=(HB.out.cell (World.block_lt_of_cell? w _ hx101_0)).trans hx101_0
    replace p101:=eq_true p101
    replace q101:=eq_true q101
    refine start_ (n:=7) (S:=fun w'=>w'.cell? (ad101.add (x5_1).toNat) = some (.string (rdOf ByteArray.empty l0 x5_1))) (ds:=[]) (bm 7 0) k_r rfl rfl (((HB.out.cell (World.block_lt_of_cell? w _ hw101_0)).trans hw101_0)) (fun hHeld=>?_)
    generalize wr.drew = w9 at HB hx101_0 hHeld ⊢
    refine py0 (i:=0) (N:=some 12) (bm 7 1) ?_
    refine py0 (i:=1) (N:=some 13) (bm 7 3) ?_
    refine py0 (i:=2) (N:=some 14) (bm 7 7) ?_
    refine py0 (i:=4) (N:=some 16) (bm 7 23) ?_
    refine take_ (i:=3) (N:=some 15) (v:=?_) (a':=?_) (bm 7 31) rfl rfl k_r (fun _ _ _ h=>h) (Or.inl ⟨by rfl,?_⟩) hHeld ?_ ?_
    rotate_left
    ·intro w' s0
     go_simp
     with_reducible rfl
    rotate_left
    ·simp only [Act.put,ac_]
     rfl
    refine one_ (i:=5) (N:=some 17) (bm 7 63) rfl rfl k_r d_c (fun K hK=>?_)
    refine goes_ Tryz.func62 k_r rfl #[.int .i64 x1_1] (by rfl) rfl rfl aq7 ?_
    with_reducible refine (laws_markText.calls k1 x1_1 t102 _ A5.out).mono ?_
    rintro e w10 ⟨rfl,hb⟩
    refine ⟨_,rfl,?_⟩
    replace HB:=am (below_step aq1 hb)
    (try clear hb)
    refine hK.out _ _ (((HB.out.cell (World.block_lt_of_cell? w _ hw101_0)).trans hw101_0)) (fun hHeld=>?_)
    clear hK K
    refine nm (some 17) ?_
    refine py0 (i:=6) (N:=some 18) (bm 7 127) ?_
    refine done_ k_r ?_
    try go_wp2
    go_ret
    exact ⟨aq8,aq1⟩
   rw [if_pos c6] at H
   have c6b0:=beq_iff_eq.mpr c6
   have c6b1:=bne_eq_false_iff_eq.mpr c6
   clear c6
   have H':=am H
   clear H
   try go_wp2
   replace HB:=am (below_drew1 HB.out)
   have p101:0 ≤ (x5_1:Int):=of_decide_eq_true aq4
   have q101:x5_1 < (l0.length:Int):=of_decide_eq_true aq4
   obtain ⟨ad101,e101,hx101_0⟩:=Kd.at_string HR0.out x5_1 p101 q101
   have hw101_0:=hx101_0
   cases e101
   try replace hx101_0:=(HB.out.cell (World.block_lt_of_cell? w _ hx101_0)).trans hx101_0
   replace p101:=eq_true p101
   replace q101:=eq_true q101
   refine start_ (n:=7) (S:=fun w'=>w'.cell? (ad101.add (x5_1).toNat) = some (.string (rdOf ByteArray.empty l0 x5_1))) (ds:=[]) (bm 7 0) k_r rfl rfl (((HB.out.cell (World.block_lt_of_cell? w _ hw101_0)).trans hw101_0)) (fun hHeld=>?_)
   generalize wr.drew = w7 at HB hx101_0 hHeld ⊢
   refine py0 (i:=0) (N:=some 12) (bm 7 1) ?_
   refine py0 (i:=1) (N:=some 13) (bm 7 3) ?_
   refine py0 (i:=2) (N:=some 14) (bm 7 7) ?_
   refine py0 (i:=4) (N:=some 16) (bm 7 23) ?_
   refine take_ (i:=3) (N:=some 15) (v:=?_) (a':=?_) (bm 7 31) rfl rfl k_r (fun _ _ _ h=>h) (Or.inl ⟨by rfl,?_⟩) hHeld ?_ ?_
   rotate_left
   ·intro w' s0
    go_simp
    with_reducible rfl
   rotate_left
   ·simp only [Act.put,ac_]
    rfl
   refine one_ (i:=5) (N:=some 17) (bm 7 63) rfl rfl k_r d_c (fun K hK=>?_)
   refine goes_ Tryz.func62 k_r rfl #[.int .i64 x1_1] (by rfl) rfl rfl aq7 ?_
   with_reducible refine (laws_markText.calls k1 x1_1 t102 _ A5.out).mono ?_
   rintro e w8 ⟨rfl,hb⟩
   refine ⟨_,rfl,?_⟩
   replace HB:=am (below_step aq1 hb)
   (try clear hb)
   refine hK.out _ _ (((HB.out.cell (World.block_lt_of_cell? w _ hw101_0)).trans hw101_0)) (fun hHeld=>?_)
   clear hK K
   refine nm (some 17) ?_
   refine py0 (i:=6) (N:=some 18) (bm 7 127) ?_
   refine done_ k_r ?_
   try go_wp2
   go_roundg k1
   case measure=>have:=HK1.out;omega
   case rel=>exact ⟨(wrap64 (x1_1 + 1)),(wrap64 (x5_1 + 1)),aq6,aq6,H',⟨aq54⟩,⟨aq1⟩⟩
end Go.Proofs.YtldhkbiomingbaaGreatDoor.F

namespace Go.Proofs.YtldhkbiomingbaaGreatDoor.F
open Go.RowKit Go.Proofs.YtldhkbiomingbaaGreatDoor Go.YW.PrintWords Go.YW.PrintMore
theorem eqS_l0 (l:List ByteArray) (hl:l.length ≤ 1000):∀ (n i:Nat),i + n = l.length → Ev (fun k=>laws_eqStringS.l0 k l l (i:Int)) true
 | 0,i,hi=>Ev.step (fun k=>by rw [laws_eqStringS.l0,if_neg o_m]) (Ev.now _)
 | n + 1,i,hi=>by
  have HW:Aside0 (wrap64 ((i:Int) + 1) = ((i + 1:Nat):Int)):=⟨by rw [w64 o_m o_m];rfl⟩
  refine Ev.step (fun k=>?_) (eqS_l0 l hl n (i + 1) o_m)
  rw [laws_eqStringS.l0,if_pos o_m,if_pos o_m,if_pos o_m,if_pos rfl,HW.out]
theorem eqS_ev (l:List ByteArray) (hl:l.length ≤ 1000):Ev (fun k=>laws_eqStringS.f k l l) true :=
 Ev.congr (fun k=>by rw [laws_eqStringS.f,if_pos rfl];rfl) (eqS_l0 l hl l.length 0 o_m)
theorem markText_l0:∀ (d n:Nat) (acc:ByteArray),n < d → d < 100000 → acc.size + d < 1000000 → ∃ t,Ev (fun k=>laws_markText.l0 k (n:Int) acc) t
 | 0,n,acc,h,_,_=>absurd h (Nat.not_lt_zero _)
 | d + 1,n,acc,h,hd,ha=>by
  by_cases h0:n = 0
  ·subst h0
   exact ⟨_,Ev.step (fun k=>by rw [laws_markText.l0,if_neg d_c,if_pos o_m]) (Ev.now _)⟩
  have e1:Int.tdiv (n:Int) 10 = ((n / 10:Nat):Int):=rfl
  have hlt:n / 10 < d:=by omega
  have hsz:(strOfNums [(wrap64 (48 + (Int.tmod (n:Int) 10))) % 256]).size = 1:=rfl
  obtain ⟨t,ht⟩:=markText_l0 d (n / 10) (strOfNums [(wrap64 (48 + (Int.tmod (n:Int) 10))) % 256] ++ acc) hlt o_m (by rw [ByteArray.size_append,hsz];omega)
  have HW:Aside0 (wrap64 ((n / 10:Nat):Int) = ((n / 10:Nat):Int)):=⟨w64 o_m o_m⟩
  refine ⟨t,Ev.step (fun k=>?_) ht⟩
  rw [laws_markText.l0,if_pos o_m,Option.bind_some,if_pos (by rw [hsz];omega),e1,HW.out]
theorem markText_ex (n:Nat) (hn:n < 5000):∃ t,Ev (fun k=>laws_markText.f k (n:Int)) t:=by
 by_cases h0:n = 0
 ·subst h0;exact ⟨_,Ev.congr (fun k=>by rw [laws_markText.f,if_pos d_c]) (Ev.now _)⟩
 obtain ⟨t,ht⟩:=markText_l0 (n + 1) n (⟨#[]⟩:ByteArray) o_m o_m (by show 0 + (n + 1) < _;omega)
 exact ⟨t,Ev.congr (fun k=>by rw [laws_markText.f,if_neg o_m]) ht⟩
noncomputable def mkT (n:Nat):ByteArray:=if h:n < 5000 then Classical.choose (markText_ex n h) else ByteArray.empty
theorem mkT_ev {n:Nat} (hn:n < 5000):Ev (fun k=>laws_markText.f k (n:Int)) (mkT n):=by
 unfold mkT;rw [dif_pos hn];exact Classical.choose_spec (markText_ex n hn)
noncomputable def marksT (m n:Nat):List ByteArray:=(List.range n).map fun j=>mkT (m + j)
theorem marksT_length (m n:Nat):(marksT m n).length = n:=by simp [marksT]
theorem markS_l0 (l:List ByteArray) (m:Nat) (hl:l.length ≤ 1000) (hm:m ≤ 1000):∀ (n i:Nat),i + n = l.length →
  Ev (fun k=>laws_markStringS.l0 k (marksT m i ++ l.drop i) ((m + i:Nat):Int) (i:Int)) (((m + l.length:Nat):Int),marksT m l.length)
 | 0,i,hi=>by
  obtain rfl:i = l.length:=by omega
  rw [List.drop_eq_nil_of_le (Nat.le_refl _),List.append_nil]
  exact Ev.step (fun k=>by rw [laws_markStringS.l0,if_neg (by rw [marksT_length];omega)]) (Ev.now _)
 | n + 1,i,hi=>by
  have hil:i < l.length:=by omega
  have HW:Aside0 (wrap64 ((i:Int) + 1) = ((i + 1:Nat):Int)):=⟨by rw [w64 o_m o_m];rfl⟩
  have HM:Aside0 (wrap64 (((m + i:Nat):Int) + 1) = ((m + (i + 1):Nat):Int)):=⟨by rw [w64 o_m o_m];omega⟩
  have hset:(marksT m i ++ l.drop i).set i (mkT (m + i)) = marksT m (i + 1) ++ l.drop (i + 1):=by
   rw [List.set_append_right _ _ (by rw [marksT_length];exact Nat.le_refl _),marksT_length,Nat.sub_self,List.drop_eq_getElem_cons hil,List.set_cons_zero]
   unfold marksT
   rw [List.range_succ,List.map_append,List.append_assoc];rfl
  have ih:=markS_l0 l m hl hm n (i + 1) o_m
  refine Ev.step (f:=fun k=>(laws_markText.f k ((m + i:Nat):Int)).bind fun t=>laws_markStringS.l0 k ((marksT m i ++ l.drop i).set i t) ((m + (i + 1):Nat):Int) ((i + 1:Nat):Int)) (fun k=>?_) (Ev.bind (mkT_ev o_m) (by rw [hset];exact ih))
  rw [laws_markStringS.l0,if_pos (by rw [List.length_append,marksT_length,List.length_drop];omega),HW.out,HM.out]
  congr 1
theorem markS_ev (l:List ByteArray) (hl:l.length ≤ 1000):Ev (fun k=>laws_markStringS.f k l 1) (((1 + l.length:Nat):Int),marksT 1 l.length):=by
 have h0:=markS_l0 l 1 hl o_m l.length 0 o_m
 exact h0
theorem heldS_l0 (m n:Nat) (hn:n ≤ 1000) (hm:m ≤ 1000):∀ (d i:Nat),i + d = n → Ev (fun k=>laws_heldStringS.l0 k (marksT m n) ((m + i:Nat):Int) (i:Int)) ((m + n:Nat):Int)
 | 0,i,hi=>by
  obtain rfl:i = n:=by omega
  exact Ev.step (fun k=>by rw [laws_heldStringS.l0,if_neg (by rw [marksT_length];omega)]) (Ev.now _)
 | d + 1,i,hi=>by
  have HW:Aside0 (wrap64 ((i:Int) + 1) = ((i + 1:Nat):Int)):=⟨by rw [w64 o_m o_m];rfl⟩
  have HM:Aside0 (wrap64 (((m + i:Nat):Int) + 1) = ((m + (i + 1):Nat):Int)):=⟨by rw [w64 o_m o_m];omega⟩
  have hget:rdOf ByteArray.empty (marksT m n) (i:Int) = mkT (m + i):=by
   unfold rdOf marksT
   rw [Int.toNat_natCast,List.getD_eq_getElem?_getD,List.getElem?_map,List.getElem?_range o_m];rfl
  refine Ev.step (f:=fun k=>(laws_markText.f k ((m + i:Nat):Int)).bind fun t=>if (mkT (m + i)).toList = t.toList then laws_heldStringS.l0 k (marksT m n) ((m + (i + 1):Nat):Int) ((i + 1:Nat):Int) else some (-1)) (fun k=>?_) (Ev.bind (mkT_ev o_m) (Ev.congr (fun k=>if_pos rfl) (heldS_l0 m n hn hm d (i + 1) o_m)))
  rw [laws_heldStringS.l0,if_pos (by rw [marksT_length];omega),if_pos o_m,HW.out,HM.out,hget]
theorem heldS_ev (n:Nat) (hn:n ≤ 1000):Ev (fun k=>laws_heldStringS.f k (marksT 1 n) 1) ((1 + n:Nat):Int):=by
 have h0:=heldS_l0 1 n hn o_m n 0 o_m
 exact h0
end Go.Proofs.YtldhkbiomingbaaGreatDoor.F

namespace Go.Proofs.YtldhkbiomingbaaGreatDoor.F
open Go.Proofs.YtldhkbiomingbaaGreatDoor
open Go.RowKit Go.YW.PrintWords Go.YW.PrintLast Go.YW.PrintMore
attribute [local go_sem] max2_int min2_int max_two min_two max_three min_three max_four min_four
mutual
def laws_FnExactReachedTrays.j0:Nat → ByteArray → List ByteArray → Bool → List ByteArray → Bool → Option (Bool)
 | 0,_,_,_,_,_=>none
 | k + 1,x0,x3,x4,x5,x32=>if x32 = true then (some false) else ((laws_markStringS.f k x5 1).bind fun bt110=>((laws_heldStringS.f k bt110.2 1).bind fun t112=>(if t112 < 0 then (some false) else (if t112 = bt110.1 then ((impl_ReachedTrays.f x0).bind fun bt113=>((laws_eqStringS.f k bt113.1 x3).bind fun t117=>(if t117 = true then (laws_FnExactReachedTrays.j1 k bt110.2 bt110.1 (bt113.2 != x4)) else (laws_FnExactReachedTrays.j1 k bt110.2 bt110.1 true)))) else (some false)))))
def laws_FnExactReachedTrays.j1:Nat → List ByteArray → Int → Bool → Option (Bool)
 | 0,_,_,_=>none
 | k + 1,x5,x7,x57=>if x57 = true then (some false) else ((laws_heldStringS.f k x5 1).bind fun t118=>(if t118 < 0 then (some false) else (if t118 = x7 then (some true) else (some false))))
end
def laws_FnExactReachedTrays.f (k:Nat) (a0:ByteArray):Option (Bool):=if (a0.size:Int) > 1048576 then (some true) else ((spec_ReachedTrays.f a0).bind fun bt101=>((impl_ReachedTrays.f a0).bind fun bt105=>((laws_eqStringS.f k bt105.1 bt101.1).bind fun t109=>(if t109 = true then (laws_FnExactReachedTrays.j0 k a0 bt101.1 bt101.2 bt105.1 (bt105.2 != bt101.2)) else (laws_FnExactReachedTrays.j0 k a0 bt101.1 bt101.2 bt105.1 true)))))
theorem laws_FnExactReachedTrays.mono_l:∀ k,(∀ y0 y1 y2 y3 y4,LeO (laws_FnExactReachedTrays.j0 k y0 y1 y2 y3 y4) (laws_FnExactReachedTrays.j0 (k + 1) y0 y1 y2 y3 y4)) ∧ (∀ y0 y1 y2,LeO (laws_FnExactReachedTrays.j1 k y0 y1 y2) (laws_FnExactReachedTrays.j1 (k + 1) y0 y1 y2))
 | 0=>⟨fun _ _ _ _ _ r h=>by simp [laws_FnExactReachedTrays.j0] at h,fun _ _ _ r h=>by simp [laws_FnExactReachedTrays.j1] at h⟩
 | k + 1=>by
  obtain ⟨ih0,ih1⟩:=laws_FnExactReachedTrays.mono_l k
  refine ⟨?_,?_⟩
  ·intro y0 y1 y2 y3 y4
   unfold laws_FnExactReachedTrays.j0
   have im0:=@laws_eqStringS.mono;have im1:=@laws_heldStringS.mono;have im2:=@laws_markStringS.mono;exact mo
  ·intro y0 y1 y2
   unfold laws_FnExactReachedTrays.j1
   have im0:=@laws_eqStringS.mono;have im1:=@laws_heldStringS.mono;have im2:=@laws_markStringS.mono;exact mo
theorem laws_FnExactReachedTrays.calls (k:Nat) (a0:ByteArray) (r:Bool) (w:World) (h:laws_FnExactReachedTrays.f k a0 = some r) :
  Calls Tryz.prog 10 #[.string a0] w fun e w'=>e = .returned (.bool r) ∧ Below w.heap.size w w':=by
 have HB:=am (Below.refl w.heap.size w)
 have H:(if (a0.size:Int) > 1048576 then (some true) else ((spec_ReachedTrays.f a0).bind fun bt101=>((impl_ReachedTrays.f a0).bind fun bt105=>((laws_eqStringS.f k bt105.1 bt101.1).bind fun t109=>(if t109 = true then (laws_FnExactReachedTrays.j0 k a0 bt101.1 bt101.2 bt105.1 (bt105.2 != bt101.2)) else (laws_FnExactReachedTrays.j0 k a0 bt101.1 bt101.2 bt105.1 true)))))) = some r:=h
 clear h
 by_cases c2:(a0.size:Int) > 1048576
 ·rw [if_pos c2] at H
  have c2b0:=decide_eq_true c2
  have c2b1:decide (1048576 < a0.size) = true:=decide_eq_true o_m
  clear c2
  obtain rfl:=Option.some.inj H
  go_enter Tryz.func10,Tryz.ntmps10
  go_wp2
  go_ret
  exact ⟨aq8,aq1⟩
 rw [if_neg c2] at H
 have c2b0:=decide_eq_false c2
 have c2b1:decide (1048576 < a0.size) = false:=decide_eq_false o_m
 clear c2
 replace H:=Option.bind_eq_some_iff.mp H
 obtain ⟨⟨t101,t102⟩,A30,H⟩:=H
 replace H:((impl_ReachedTrays.f a0).bind fun bt105=>((laws_eqStringS.f k bt105.1 t101).bind fun t109=>(if t109 = true then (laws_FnExactReachedTrays.j0 k a0 t101 t102 bt105.1 (bt105.2 != t102)) else (laws_FnExactReachedTrays.j0 k a0 t101 t102 bt105.1 true)))) = some r:=H
 have A3:=am A30
 clear A30
 replace H:=Option.bind_eq_some_iff.mp H
 obtain ⟨⟨t105,t106⟩,A40,H⟩:=H
 replace H:((laws_eqStringS.f k t105 t101).bind fun t109=>(if t109 = true then (laws_FnExactReachedTrays.j0 k a0 t101 t102 t105 (t106 != t102)) else (laws_FnExactReachedTrays.j0 k a0 t101 t102 t105 true))) = some r:=H
 have A4:=am A40
 clear A40
 have HC5:=am H
 clear H
 go_enter Tryz.func10,Tryz.ntmps10
 go_upto_region 5 with (first | ((with_reducible refine gate_callee (f:=37) rfl ?_);refine goesL_ (some 16) rfl rfl Tryz.func37 k_r rfl #[.string a0] rfl aq7 ?_;(with_reducible refine (spec_ReachedTrays.calls a0 t101 t102 _ A3.out).mono ?_);rintro e w6 ⟨v103,rfl,ho0,hb⟩;refine ⟨_,rfl,?_⟩;have HO104:=am (Kd.R_lower ho0 (below_size aq1));replace HB:=am (below_step aq1 hb);(try clear hb);(try clear ho0)) | ((with_reducible refine gate_callee (f:=38) rfl ?_);refine goesL_ (some 21) rfl rfl Tryz.func38 k_r rfl #[.string a0] rfl aq7 ?_;(with_reducible refine (impl_ReachedTrays.calls a0 t105 t106 _ A4.out).mono ?_);rintro e w7 ⟨v107,rfl,ho0,hb⟩;refine ⟨_,rfl,?_⟩;have HO108:=am (Kd.R_lower (Kd.R_new' ho0 (Kd.R_lt (by (with_reducible repeat (first | apply Kd.R_alloc | apply Kd.R_drewN | apply Kd.R_drew));exact HO104.out))) (below_size aq1));replace HO104:=am (Kd.R_elder' (by (with_reducible repeat (first | apply Kd.R_alloc | apply Kd.R_drewN | apply Kd.R_drew));exact HO104.out) (Kd.R_base ho0) hb);replace HB:=am (below_step aq1 hb);(try clear hb);(try clear ho0)))
 (try simp only [Act.put,List.setIfInBounds_toArray,List.set_cons_zero,List.set_cons_succ])
 go_cut [32] (fun v32 wc=>∃ (kq:Nat) (x32_4:Bool),v32 = .bool x32_4 ∧ Aside0 (laws_FnExactReachedTrays.j0 kq a0 t101 t102 t105 x32_4 = some r) ∧ Aside0 (kq ≤ k) ∧ Aside0 (Kd.R Kd.string 9 wc w.heap.size (fun k_=>some k_ ≠ (v107:Value).ownBlock) v103 t101) ∧ Aside0 (Kd.R Kd.string 9 wc w.heap.size (fun k_=>some k_ ≠ (v103:Value).ownBlock) v107 t105) ∧ Aside0 (Below w.heap.size w wc))
 case first =>
  have H:=HC5.out
  clear HC5
  obtain ⟨t109,A8,H⟩:=bn H
  by_cases c9:t109 = true
  ·subst c9
   rw [if_pos rfl] at H
   have H':=am H
   clear H
   obtain ⟨Ao10,co10,eo10⟩:=Kd.R_slice HO108.out
   subst eo10
   obtain ⟨Ao11,co11,eo11⟩:=Kd.R_slice HO104.out
   subst eo11
   go_wp2_with (first | ((with_reducible refine gate_callee (f:=26) rfl ?_);refine goesL_ (some 26) rfl rfl Tryz.func26 k_r rfl #[.slice Ao10 t105.length co10,.slice Ao11 t101.length co11] rfl aq7 ?_;(with_reducible refine (laws_eqStringS.calls k _ _ t105 _ _ t101 true _ ?side1 ?side2 ?side3 ?side4 A8.out).mono ?_);(case side1=>exact aq60);(case side2=>exact (Kd.R_reads' HO108.out).2.1);(case side3=>exact aq61);(case side4=>exact (Kd.R_reads' HO104.out).2.1);rintro e w' ⟨rfl,⟨nd,rfl⟩⟩;refine ⟨_,rfl,?_⟩))
   go_meet
   case rel=>exact ⟨_,((t106 != t102)),aq6,H',⟨by first | omega | exact Nat.le_refl _⟩,⟨aq72⟩,⟨aq71⟩,⟨aq1⟩⟩
  replace c9:=Bool.eq_false_iff.mpr c9
  subst c9
  rw [if_neg Bool.false_ne_true] at H
  have H':=am H
  clear H
  obtain ⟨Ao12,co12,eo12⟩:=Kd.R_slice HO108.out
  subst eo12
  obtain ⟨Ao13,co13,eo13⟩:=Kd.R_slice HO104.out
  subst eo13
  go_wp2_with (first | ((with_reducible refine gate_callee (f:=26) rfl ?_);refine goesL_ (some 26) rfl rfl Tryz.func26 k_r rfl #[.slice Ao12 t105.length co12,.slice Ao13 t101.length co13] rfl aq7 ?_;(with_reducible refine (laws_eqStringS.calls k _ _ t105 _ _ t101 false _ ?side1 ?side2 ?side3 ?side4 A8.out).mono ?_);(case side1=>exact aq60);(case side2=>exact (Kd.R_reads' HO108.out).2.1);(case side3=>exact aq61);(case side4=>exact (Kd.R_reads' HO104.out).2.1);rintro e w' ⟨rfl,⟨nd,rfl⟩⟩;refine ⟨_,rfl,?_⟩))
  go_meet
  case rel=>exact ⟨_,(true),aq6,H',⟨by first | omega | exact Nat.le_refl _⟩,⟨aq72⟩,⟨aq71⟩,⟨aq1⟩⟩
 case rest =>
  clear HC5
  try clear c1
  try clear c2
  try clear c2b0
  try clear c2b1
  try clear p2
  try clear c3
  try clear c9
  try clear c10
  obtain ⟨kq,x32_4,rfl,HA,HJ4,HO_3,HO_5,HB⟩:=hcut
  cases kq with
  | zero=>exact absurd HA.out (by simp [laws_FnExactReachedTrays.j0])
  | succ kj4 =>
   have H:=HA.out
   clear HA
   simp only [laws_FnExactReachedTrays.j0] at H
   by_cases c14:x32_4 = true
   ·subst c14
    rw [if_pos rfl] at H
    obtain rfl:=Option.some.inj H
    go_wp2
    go_ret
    exact ⟨aq8,aq1⟩
   replace c14:=Bool.eq_false_iff.mpr c14
   subst c14
   rw [if_neg Bool.false_ne_true] at H
   replace H:=Option.bind_eq_some_iff.mp H
   obtain ⟨⟨t110,t111⟩,A150,H⟩:=H
   replace H:((laws_heldStringS.f kj4 t111 1).bind fun t112=>(if t112 < 0 then (some false) else (if t112 = t110 then ((impl_ReachedTrays.f a0).bind fun bt113=>((laws_eqStringS.f kj4 bt113.1 t101).bind fun t117=>(if t117 = true then (laws_FnExactReachedTrays.j1 kj4 t111 t110 (bt113.2 != t102)) else (laws_FnExactReachedTrays.j1 kj4 t111 t110 true)))) else (some false)))) = some r:=H
   have A15:=am A150
   clear A150
   obtain ⟨t112,A16,H⟩:=bn H
   by_cases c17:t112 < 0
   ·rw [if_pos c17] at H
    have c17b0:=decide_eq_true c17
    clear c17
    obtain rfl:=Option.some.inj H
    obtain ⟨Ao18,co18,eo18⟩:=Kd.R_slice HO_5.out
    subst eo18
    go_wp2_with (first | ((with_reducible refine gate_callee (f:=27) rfl ?_);refine goesL_ (some 35) rfl rfl Tryz.func27 k_r rfl #[.slice Ao18 t105.length co18,.int .i64 1] rfl aq7 ?_;(with_reducible refine (laws_markStringS.calls kj4 (fun k_=>some k_ = (.slice Ao18 t105.length co18:Value).ownBlock) (.slice Ao18 t105.length co18) t105 1 t110 t111 w _ ?side1 ?side2 A15.out).mono ?_);(case side1=>exact aq1);(case side2=>exact Kd.R_tight rfl HO_5.out);rintro e w19 ⟨rfl,hy0,hb,hkp⟩;refine ⟨_,rfl,?_⟩;replace HO_3:=am (Kd.R_mono (ok':=fun k_=>some k_ ≠ (.slice Ao18 t105.length co18:Value).ownBlock) (Kd.R_keptB (HO_3.out) hkp (fun k_ hk_ hs_=>(hk_) hs_)) (fun k_ hk_=>hk_.1));replace HO_5:=am (Kd.R_reok rfl hy0 (fun k_ e_=>HO_5.out.1 k_ e_));replace HB:=am (hb);(try clear hb);(try clear hkp);(try clear hy0)) | ((with_reducible refine gate_callee (f:=28) rfl ?_);refine goesL_ (some 38) rfl rfl Tryz.func28 k_r rfl #[.slice Ao18 t111.length co18,.int .i64 1] rfl aq27 ?_;(with_reducible refine (laws_heldStringS.calls kj4 _ _ t111 1 t112 _ ?side1 ?side2 A16.out).mono ?_);(case side1=>exact aq21);(case side2=>exact aq53);rintro e w20 ⟨rfl,hb⟩;refine ⟨_,rfl,?_⟩;replace HO_3:=am (Kd.R_below aq10 hb);replace HO_5:=am (Kd.R_below aq24 hb);replace HB:=am (below_step aq1 hb);(try clear hb)))
    go_ret
    exact ⟨aq8,aq1⟩
   rw [if_neg c17] at H
   have c17b0:=decide_eq_false c17
   clear c17
   by_cases c21:t112 = t110
   rotate_left
   ·rw [if_neg c21] at H
    have c21b0:=beq_eq_false_iff_ne.mpr c21
    have c21b1:=bne_iff_ne.mpr c21
    obtain rfl:=Option.some.inj H
    obtain ⟨Ao41,co41,eo41⟩:=Kd.R_slice HO_5.out
    subst eo41
    go_wp2_with (first | ((with_reducible refine gate_callee (f:=27) rfl ?_);refine goesL_ (some 35) rfl rfl Tryz.func27 k_r rfl #[.slice Ao41 t105.length co41,.int .i64 1] rfl aq7 ?_;(with_reducible refine (laws_markStringS.calls kj4 (fun k_=>some k_ = (.slice Ao41 t105.length co41:Value).ownBlock) (.slice Ao41 t105.length co41) t105 1 t110 t111 w _ ?side1 ?side2 A15.out).mono ?_);(case side1=>exact aq1);(case side2=>exact Kd.R_tight rfl HO_5.out);rintro e w42 ⟨rfl,hy0,hb,hkp⟩;refine ⟨_,rfl,?_⟩;replace HO_3:=am (Kd.R_mono (ok':=fun k_=>some k_ ≠ (.slice Ao41 t105.length co41:Value).ownBlock) (Kd.R_keptB (HO_3.out) hkp (fun k_ hk_ hs_=>(hk_) hs_)) (fun k_ hk_=>hk_.1));replace HO_5:=am (Kd.R_reok rfl hy0 (fun k_ e_=>HO_5.out.1 k_ e_));replace HB:=am (hb);(try clear hb);(try clear hkp);(try clear hy0)) | ((with_reducible refine gate_callee (f:=28) rfl ?_);refine goesL_ (some 38) rfl rfl Tryz.func28 k_r rfl #[.slice Ao41 t111.length co41,.int .i64 1] rfl aq27 ?_;(with_reducible refine (laws_heldStringS.calls kj4 _ _ t111 1 t112 _ ?side1 ?side2 A16.out).mono ?_);(case side1=>exact aq21);(case side2=>exact aq53);rintro e w43 ⟨rfl,hb⟩;refine ⟨_,rfl,?_⟩;replace HO_3:=am (Kd.R_below aq10 hb);replace HO_5:=am (Kd.R_below aq24 hb);replace HB:=am (below_step aq1 hb);(try clear hb)))
    go_ret
    exact ⟨aq8,aq1⟩
   rw [if_pos c21] at H
   have c21b0:=beq_iff_eq.mpr c21
   have c21b1:=bne_eq_false_iff_eq.mpr c21
   clear c21
   replace H:=Option.bind_eq_some_iff.mp H
   obtain ⟨⟨t113,t114⟩,A220,H⟩:=H
   replace H:((laws_eqStringS.f kj4 t113 t101).bind fun t117=>(if t117 = true then (laws_FnExactReachedTrays.j1 kj4 t111 t110 (t114 != t102)) else (laws_FnExactReachedTrays.j1 kj4 t111 t110 true))) = some r:=H
   have A22:=am A220
   clear A220
   have HC23:=am H
   clear H
   obtain ⟨Ao24,co24,eo24⟩:=Kd.R_slice HO_5.out
   subst eo24
   go_upto_region 16 with (first | ((with_reducible refine gate_callee (f:=27) rfl ?_);refine goesL_ (some 35) rfl rfl Tryz.func27 k_r rfl #[.slice Ao24 t105.length co24,.int .i64 1] rfl aq7 ?_;(with_reducible refine (laws_markStringS.calls kj4 (fun k_=>some k_ = (.slice Ao24 t105.length co24:Value).ownBlock) (.slice Ao24 t105.length co24) t105 1 t110 t111 w _ ?side1 ?side2 A15.out).mono ?_);(case side1=>exact aq1);(case side2=>exact Kd.R_tight rfl HO_5.out);rintro e w25 ⟨rfl,hy0,hb,hkp⟩;refine ⟨_,rfl,?_⟩;replace HO_3:=am (Kd.R_mono (ok':=fun k_=>some k_ ≠ (.slice Ao24 t105.length co24:Value).ownBlock) (Kd.R_keptB (HO_3.out) hkp (fun k_ hk_ hs_=>(hk_) hs_)) (fun k_ hk_=>hk_.1));replace HO_5:=am (Kd.R_reok rfl hy0 (fun k_ e_=>HO_5.out.1 k_ e_));replace HB:=am (hb);(try clear hb);(try clear hkp);(try clear hy0)) | ((with_reducible refine gate_callee (f:=28) rfl ?_);refine goesL_ (some 38) rfl rfl Tryz.func28 k_r rfl #[.slice Ao24 t111.length co24,.int .i64 1] rfl aq27 ?_;(with_reducible refine (laws_heldStringS.calls kj4 _ _ t111 1 t112 _ ?side1 ?side2 A16.out).mono ?_);(case side1=>exact aq21);(case side2=>exact aq53);rintro e w26 ⟨rfl,hb⟩;refine ⟨_,rfl,?_⟩;replace HO_3:=am (Kd.R_below aq10 hb);replace HO_5:=am (Kd.R_below aq24 hb);replace HB:=am (below_step aq1 hb);(try clear hb)) | ((with_reducible refine gate_callee (f:=38) rfl ?_);refine goesL_ (some 46) rfl rfl Tryz.func38 k_r rfl #[.string a0] rfl aq7 ?_;(with_reducible refine (impl_ReachedTrays.calls a0 t113 t114 _ A22.out).mono ?_);rintro e w27 ⟨v115,rfl,ho0,hb⟩;refine ⟨_,rfl,?_⟩;have HO116:=am (Kd.R_lower (Kd.R_new' (Kd.R_new' ho0 (Kd.R_lt aq10)) (Kd.R_lt aq24)) (below_size aq1));replace HO_3:=am (Kd.R_elder' aq10 (Kd.R_base ho0) hb);replace HO_5:=am (Kd.R_elder' aq24 (Kd.R_base ho0) hb);replace HB:=am (below_step aq1 hb);(try clear hb);(try clear ho0)))
   (try simp only [Act.put,List.setIfInBounds_toArray,List.set_cons_zero,List.set_cons_succ])
   go_cut [57] (fun v57 wc=>∃ (kq:Nat) (x57_22:Bool),v57 = .bool x57_22 ∧ Aside0 (laws_FnExactReachedTrays.j1 kq t111 t110 x57_22 = some r) ∧ Aside0 (kq ≤ kj4) ∧ Aside0 (Kd.R Kd.string 9 wc w.heap.size (fun _=>True) (.slice Ao24 t105.length co24) t111) ∧ Aside0 (Below w.heap.size w wc))
   case first =>
    have H:=HC23.out
    clear HC23
    obtain ⟨t117,A28,H⟩:=bn H
    by_cases c29:t117 = true
    ·subst c29
     rw [if_pos rfl] at H
     have H':=am H
     clear H
     obtain ⟨Ao30,co30,eo30⟩:=Kd.R_slice HO116.out
     subst eo30
     obtain ⟨Ao31,co31,eo31⟩:=Kd.R_slice HO_3.out
     subst eo31
     go_wp2_with (first | ((with_reducible refine gate_callee (f:=26) rfl ?_);refine goesL_ (some 51) rfl rfl Tryz.func26 k_r rfl #[.slice Ao30 t113.length co30,.slice Ao31 t101.length co31] rfl aq7 ?_;(with_reducible refine (laws_eqStringS.calls kj4 _ _ t113 _ _ t101 true _ ?side1 ?side2 ?side3 ?side4 A28.out).mono ?_);(case side1=>exact aq59);(case side2=>exact (Kd.R_reads' HO116.out).2.1);(case side3=>exact aq63);(case side4=>exact (Kd.R_reads' HO_3.out).2.1);rintro e w' ⟨rfl,⟨nd,rfl⟩⟩;refine ⟨_,rfl,?_⟩))
     go_meet
     case rel=>exact ⟨_,((t114 != t102)),aq6,H',⟨by have:=HJ4.out;first | omega | exact Nat.le_refl _⟩,⟨aq70⟩,⟨aq1⟩⟩
    replace c29:=Bool.eq_false_iff.mpr c29
    subst c29
    rw [if_neg Bool.false_ne_true] at H
    have H':=am H
    clear H
    obtain ⟨Ao32,co32,eo32⟩:=Kd.R_slice HO116.out
    subst eo32
    obtain ⟨Ao33,co33,eo33⟩:=Kd.R_slice HO_3.out
    subst eo33
    go_wp2_with (first | ((with_reducible refine gate_callee (f:=26) rfl ?_);refine goesL_ (some 51) rfl rfl Tryz.func26 k_r rfl #[.slice Ao32 t113.length co32,.slice Ao33 t101.length co33] rfl aq7 ?_;(with_reducible refine (laws_eqStringS.calls kj4 _ _ t113 _ _ t101 false _ ?side1 ?side2 ?side3 ?side4 A28.out).mono ?_);(case side1=>exact aq59);(case side2=>exact (Kd.R_reads' HO116.out).2.1);(case side3=>exact aq63);(case side4=>exact (Kd.R_reads' HO_3.out).2.1);rintro e w' ⟨rfl,⟨nd,rfl⟩⟩;refine ⟨_,rfl,?_⟩))
    go_meet
    case rel=>exact ⟨_,(true),aq6,H',⟨by have:=HJ4.out;first | omega | exact Nat.le_refl _⟩,⟨aq70⟩,⟨aq1⟩⟩
   case rest =>
    clear HC23
    try clear c1
    try clear c2
    try clear c2b0
    try clear c2b1
    try clear p2
    try clear c3
    try clear c9
    try clear c10
    try clear c14
    try clear c17
    try clear c17b0
    try clear c21
    try clear c21b0
    try clear c21b1
    try clear c26
    try clear c27
    try clear c28
    try clear c29
    try clear p2
    obtain ⟨kq,x57_22,rfl,HA,HJ22,HO_5,HB⟩:=hcut
    have hl5_22:=(Kd.R_reads' HO_5.out).1
    rw [hl5_22] at HO_5
    (try simp only [hl5_22])
    cases kq with
    | zero=>exact absurd HA.out (by simp [laws_FnExactReachedTrays.j1])
    | succ kj22 =>
     have H:=HA.out
     clear HA
     simp only [laws_FnExactReachedTrays.j1] at H
     by_cases c34:x57_22 = true
     ·subst c34
      rw [if_pos rfl] at H
      obtain rfl:=Option.some.inj H
      go_wp2
      go_ret
      exact ⟨aq8,aq1⟩
     replace c34:=Bool.eq_false_iff.mpr c34
     subst c34
     rw [if_neg Bool.false_ne_true] at H
     obtain ⟨t118,A35,H⟩:=bn H
     by_cases c36:t118 < 0
     ·rw [if_pos c36] at H
      have c36b0:=decide_eq_true c36
      clear c36
      obtain rfl:=Option.some.inj H
      go_wp2_with (first | ((with_reducible refine gate_callee (f:=28) rfl ?_);refine goesL_ (some 60) rfl rfl Tryz.func28 k_r rfl #[.slice Ao24 t111.length co24,.int .i64 1] rfl aq7 ?_;(with_reducible refine (laws_heldStringS.calls kj22 _ _ t111 1 t118 _ ?side1 ?side2 A35.out).mono ?_);(case side1=>exact aq21);(case side2=>exact (Kd.R_reads' HO_5.out).2.1);rintro e w37 ⟨rfl,hb⟩;refine ⟨_,rfl,?_⟩;replace HO_5:=am (Kd.R_below aq24 hb);replace HB:=am (below_step aq1 hb);(try clear hb)))
      go_ret
      exact ⟨aq8,aq1⟩
     rw [if_neg c36] at H
     have c36b0:=decide_eq_false c36
     clear c36
     by_cases c38:t118 = t110
     rotate_left
     ·rw [if_neg c38] at H
      have c38b0:=beq_eq_false_iff_ne.mpr c38
      have c38b1:=bne_iff_ne.mpr c38
      obtain rfl:=Option.some.inj H
      go_wp2_with (first | ((with_reducible refine gate_callee (f:=28) rfl ?_);refine goesL_ (some 60) rfl rfl Tryz.func28 k_r rfl #[.slice Ao24 t111.length co24,.int .i64 1] rfl aq7 ?_;(with_reducible refine (laws_heldStringS.calls kj22 _ _ t111 1 t118 _ ?side1 ?side2 A35.out).mono ?_);(case side1=>exact aq21);(case side2=>exact (Kd.R_reads' HO_5.out).2.1);rintro e w40 ⟨rfl,hb⟩;refine ⟨_,rfl,?_⟩;replace HO_5:=am (Kd.R_below aq24 hb);replace HB:=am (below_step aq1 hb);(try clear hb)))
      go_ret
      exact ⟨aq8,aq1⟩
     rw [if_pos c38] at H
     have c38b0:=beq_iff_eq.mpr c38
     have c38b1:=bne_eq_false_iff_eq.mpr c38
     clear c38
     obtain rfl:=Option.some.inj H
     go_wp2_with (first | ((with_reducible refine gate_callee (f:=28) rfl ?_);refine goesL_ (some 60) rfl rfl Tryz.func28 k_r rfl #[.slice Ao24 t111.length co24,.int .i64 1] rfl aq7 ?_;(with_reducible refine (laws_heldStringS.calls kj22 _ _ t111 1 t118 _ ?side1 ?side2 A35.out).mono ?_);(case side1=>exact aq21);(case side2=>exact (Kd.R_reads' HO_5.out).2.1);rintro e w39 ⟨rfl,hb⟩;refine ⟨_,rfl,?_⟩;replace HO_5:=am (Kd.R_below aq24 hb);replace HB:=am (below_step aq1 hb);(try clear hb)))
     go_ret
     exact ⟨aq8,aq1⟩
end Go.Proofs.YtldhkbiomingbaaGreatDoor.F

namespace Go.Proofs.YtldhkbiomingbaaGreatDoor.F
open Go.RowKit Go.Proofs.YtldhkbiomingbaaGreatDoor Go.YW.PrintWords Go.YW.PrintMore
theorem reachedA_len (t:ByteArray):(reachedA t).1.length ≤ 300:=by
 unfold reachedA
 cases hs:srch t with
 | none=>simp
 | some q =>
  obtain ⟨w,h,s⟩:=q
  obtain ⟨cs,_,_,_,_,o⟩:=srch_some hs
  simp only
  rw [sortB_len,rT_len]
  exact o.ok.most
theorem impl_reached_eq (t:ByteArray) (ht:t.size < 4294967281):impl_ReachedTrays.f t = some (reachedA t):=by
 unfold impl_ReachedTrays.f reachedA
 cases hs:srch t with
 | none =>
  rw [reachOf_none ht hs,Option.bind_some]
  simp only
  rw [if_pos (by simp),show sortB [] = [] by unfold sortB;rw [List.map_nil,List.mergeSort_nil];rfl]
 | some q =>
  obtain ⟨w,h,s⟩:=q
  obtain ⟨cs,_,_,_,_,o⟩:=srch_some hs
  rw [reachOf_some ht hs,Option.bind_some]
  simp only
  rw [if_pos (by rw [rT_len];have:=o.ok.most;omega)]
theorem FnExactReachedTrays (a:ByteArray) (ha:a.size ≤ 9223372036854775807):∃ k,laws_FnExactReachedTrays.f k a = some true:=by
 refine Ev.rounds (g:=fun k=>laws_FnExactReachedTrays.f k a) ?_
 unfold laws_FnExactReachedTrays.f
 by_cases c0:(a.size:Int) > 1048576
 ·exact Ev.congr (fun k=>if_pos c0) (Ev.now _)
 have hI:=impl_reached_eq a o_m
 have hS:spec_ReachedTrays.f a = some (reachedA a):=rfl
 have hlen:=reachedA_len a
 refine Ev.congr (fun k=>by rw [if_neg c0,hS,Option.bind_some,hI,Option.bind_some]) ?_
 generalize reachedA a = R at hI hS hlen
 have hE:=eqS_ev R.1 o_m
 have hM:=markS_ev R.1 o_m
 have hH:=heldS_ev R.1.length o_m
 have hend:Ev (fun k=>laws_FnExactReachedTrays.j1 k (marksT 1 R.1.length) ((1 + R.1.length:Nat):Int) false) true:=by
  refine Ev.step (fun k=>by rw [laws_FnExactReachedTrays.j1,if_neg Bool.false_ne_true]) (Ev.bind hH ?_)
  exact Ev.congr (fun k=>by rw [if_neg o_m,if_pos rfl]) (Ev.now _)
 have hmid:Ev (fun k=>laws_FnExactReachedTrays.j0 k a R.1 R.2 R.1 false) true:=by
  refine Ev.step (fun k=>by rw [laws_FnExactReachedTrays.j0,if_neg Bool.false_ne_true]) (Ev.bind hM (Ev.bind hH ?_))
  refine Ev.congr (fun k=>by rw [if_neg o_m,if_pos rfl,hI,Option.bind_some]) (Ev.bind hE ?_)
  refine Ev.congr (fun k=>if_pos rfl) ?_
  rw [bne_self_eq_false]
  exact hend
 refine Ev.bind hE ?_
 refine Ev.congr (fun k=>if_pos rfl) ?_
 rw [bne_self_eq_false]
 exact hmid
end Go.Proofs.YtldhkbiomingbaaGreatDoor.F
