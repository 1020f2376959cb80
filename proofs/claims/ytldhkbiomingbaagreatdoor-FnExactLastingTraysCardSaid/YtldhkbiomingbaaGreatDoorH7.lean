/- The proof that the law's row holds, part 7: the kit's words, the printed walks and the plain law. No conditions beyond the card's own. -/
import Derived.Test.YtldhkbiomingbaaGreatDoorH0
import Derived.Test.YtldhkbiomingbaaGreatDoorH1
import Derived.Test.YtldhkbiomingbaaGreatDoorH2
import Derived.Test.YtldhkbiomingbaaGreatDoorH3
import Derived.Test.YtldhkbiomingbaaGreatDoorH4
import Derived.Test.YtldhkbiomingbaaGreatDoorH5
import Derived.Test.YtldhkbiomingbaaGreatDoorH6
set_option linter.unusedVariables false
set_option linter.unusedSimpArgs false
set_option maxHeartbeats 8000000
set_option maxRecDepth 100000
namespace Go.Proofs.YtldhkbiomingbaaGreatDoor.F
open Go.Proofs.YtldhkbiomingbaaGreatDoor
open Go.RowKit Go.YW.PrintWords Go.YW.PrintLast Go.YW.PrintMore
attribute [local go_sem] max2_int min2_int max_two min_two max_three min_three max_four min_four
def impl_reach_cells.l0:Nat → ByteArray → List Int → List ByteArray → Int → Int → Option (List Int)
 | 0,_,_,_,_,_=>none
 | k + 1,x1,x5,x10,x11,x12=>if x12 < x11 then (if 0 ≤ x12 then (if x12 < (x10.length:Int) then ((impl_read.f (rdOf ByteArray.empty x10 x12)).bind fun bt106=>(if 0 < (x1.size:Int) then ((slices_Index_byte_byte.f k bt106.2.2 (bt x1 0)).bind fun t111=>(if x5.length < 17592186044416 then (impl_reach_cells.l0 k x1 (x5 ++ [t111]) x10 x11 (wrap64 (x12 + 1))) else (none))) else (none))) else (none)) else (none)) else (some x5)
theorem impl_reach_cells.mono_l:∀ k,(∀ y0 y1 y2 y3 y4,LeO (impl_reach_cells.l0 k y0 y1 y2 y3 y4) (impl_reach_cells.l0 (k + 1) y0 y1 y2 y3 y4))
 | 0=>fun _ _ _ _ _ r h=>by simp [impl_reach_cells.l0] at h
 | k + 1=>by
  have ih0:=impl_reach_cells.mono_l k
  ·intro y0 y1 y2 y3 y4
   unfold impl_reach_cells.l0
   have im0:=@slices_Index_byte_byte.mono;exact mo
def slices_Index_int_int.l0:Nat → List Int → Int → Int → Int → Option (Int)
 | 0,_,_,_,_=>none
 | k + 1,x0,x1,x7,x8=>if x8 < x7 then (if 0 ≤ x8 then (if x8 < (x0.length:Int) then (if x1 = (rd x0 x8) then (some x8) else (slices_Index_int_int.l0 k x0 x1 x7 (wrap64 (x8 + 1)))) else (none)) else (none)) else (some (-1))
theorem slices_Index_int_int.mono_l:∀ k,(∀ y0 y1 y2 y3,LeO (slices_Index_int_int.l0 k y0 y1 y2 y3) (slices_Index_int_int.l0 (k + 1) y0 y1 y2 y3))
 | 0=>fun _ _ _ _ r h=>by simp [slices_Index_int_int.l0] at h
 | k + 1=>by
  have ih0:=slices_Index_int_int.mono_l k
  ·intro y0 y1 y2 y3
   unfold slices_Index_int_int.l0
   exact mo

end Go.Proofs.YtldhkbiomingbaaGreatDoor.F

namespace Go.Proofs.YtldhkbiomingbaaGreatDoor.F
open Go.Proofs.YtldhkbiomingbaaGreatDoor
open Go.RowKit Go.YW.PrintWords Go.YW.PrintMore
theorem placeI_read {w h:Nat} {c:List Int} (v:Vg (w,h,c)):impl_read.f (textB (w,h,c)) = some ((w:Int),(h:Int),c):=impl_read_eq _ (grid_textB v)
theorem cells_l0 {w h:Nat} {s:RS} {n:ByteArray} (hn:n.size = 1) (hv:∀ c ∈ s.T,Vg (w,h,c)) (hl:s.T.length ≤ 300):∀ (d i:Nat),i + d = s.T.length →
  Ev (fun k=>impl_reach_cells.l0 k n ((cellsI s (bt n 0)).take i) (rT w h s) ((rT w h s).length:Int) i) (cellsI s (bt n 0))
 | 0,i,hi=>by
  refine Ev.step (f:=fun _=>some (cellsI s (bt n 0))) (fun k=>?_) (Ev.now _)
  rw [impl_reach_cells.l0,if_neg (by rw [rT_len];omega),List.take_of_length_le (by rw [cellsI_len];omega)]
 | d + 1,i,hi=>by
  have hlt:i < s.T.length:=by omega
  have ih:=cells_l0 hn hv hl d (i + 1) o_m
  have hvi:=hv _ (getD_mem (d:=([]:List Int)) hlt)
  have hrd:rdOf ByteArray.empty (rT w h s) (i:Int) = textB (w,h,s.T.getD i []):=by
   unfold rdOf rT
   rw [Int.toNat_natCast,List.getD_eq_getElem?_getD,List.getElem?_map,List.getElem?_eq_getElem hlt,getD_lt hlt];rfl
  have hll:=(tray_small hvi).2
  simp only at hll
  have hix:=index_l0 (cs:=s.T.getD i []) o_m (bt n 0) _ 0 (Nat.zero_add _) (fun j hj=>by omega)
  have htk:(cellsI s (bt n 0)).take i ++ [placeI (bt n 0) (s.T.getD i [])] = (cellsI s (bt n 0)).take (i + 1):=by
   rw [List.take_succ_eq_append_getElem (by rw [cellsI_len];exact hlt),← cellsI_get s (bt n 0) hlt,getD_lt (by rw [cellsI_len];exact hlt)]
  refine Ev.step (f:=fun k=>(slices_Index_byte_byte.f k (s.T.getD i []) (bt n 0)).bind fun t111=>(if ((cellsI s (bt n 0)).take i).length < 17592186044416 then (impl_reach_cells.l0 k n ((cellsI s (bt n 0)).take i ++ [t111]) (rT w h s) ((rT w h s).length:Int) (wrap64 ((i:Int) + 1))) else none)) (fun k=>?_) ?_
  ·rw [impl_reach_cells.l0,if_pos (by rw [rT_len];omega),if_pos o_m,if_pos (by rw [rT_len];omega),hrd,placeI_read hvi,Option.bind_some,if_pos o_m]
  ·refine Ev.bind hix (Ev.congr (fun k=>?_) ih)
   rw [if_pos (by rw [List.length_take];omega)]
   show impl_reach_cells.l0 k n (_ ++ [placeI (bt n 0) (s.T.getD i [])]) _ _ _ = _
   rw [htk,show (i:Int) + 1 = ((i + 1:Nat):Int) by omega,w64t o_m]
end Go.Proofs.YtldhkbiomingbaaGreatDoor.F

namespace Go.Proofs.YtldhkbiomingbaaGreatDoor.F
open Go.Proofs.YtldhkbiomingbaaGreatDoor
open Go.RowKit Go.YW.PrintWords Go.YW.PrintLast Go.YW.PrintMore
attribute [local go_sem] max2_int min2_int max_two min_two max_three min_three max_four min_four


end Go.Proofs.YtldhkbiomingbaaGreatDoor.F

namespace Go.Proofs.YtldhkbiomingbaaGreatDoor.F
open Go.Proofs.YtldhkbiomingbaaGreatDoor
open Go.RowKit Go.YW.PrintWords Go.YW.PrintMore
theorem reachOf_some {t:ByteArray} {w h:Nat} {s:RS} (ht:t.size < 4294967281) (hs:srch t = some (w,h,s)):impl_reachOf.f t = some (rT w h s,castsI s.F,s.N.map castsI,rW s,true):=by
 unfold impl_reachOf.f
 rw [if_pos ht,hs]
theorem reachOf_none {t:ByteArray} (ht:t.size < 4294967281) (hs:srch t = none):impl_reachOf.f t = some ([],[],[],[],false):=by
 unfold impl_reachOf.f
 rw [if_pos ht,hs]
end Go.Proofs.YtldhkbiomingbaaGreatDoor.F

namespace Go.Proofs.YtldhkbiomingbaaGreatDoor.F
open Go.Proofs.YtldhkbiomingbaaGreatDoor
open Go.RowKit Go.YW.PrintWords Go.YW.PrintLast Go.YW.PrintMore
attribute [local go_sem] max2_int min2_int max_two min_two max_three min_three max_four min_four
mutual
def impl_reach_ways.l0:Nat → List Int → List (List Int) → Int → Int → List ByteArray → List Int → List (List Int) → List ByteArray → Option (List Int)
 | 0,_,_,_,_,_,_,_,_=>none
 | k + 1,x3,x15,x16,x17,x102000,x102001,x102002,x102003=>if x17 < x16 then (if 0 ≤ x17 then (if x17 < (x15.length:Int) then (impl_reach_ways.l1 k x3 x17 x15 x16 x17 (rd_L3 x15 x17) ((rd_L3 x15 x17).length:Int) 0 x102000 x102001 x102002 x102003) else (none)) else (none)) else (some x3)
def impl_reach_ways.l1:Nat → List Int → Int → List (List Int) → Int → Int → List Int → Int → Int → List ByteArray → List Int → List (List Int) → List ByteArray → Option (List Int)
 | 0,_,_,_,_,_,_,_,_,_,_,_,_=>none
 | k + 1,x3,x4,x15,x16,x17,x22,x23,x24,x102000,x102001,x102002,x102003=>if x24 < x23 then (if 0 ≤ x24 then (if x24 < (x22.length:Int) then (if 0 ≤ (rd x22 x24) then (if (rd x22 x24) < (x102001.length:Int) then (if 0 ≤ x4 then (if x4 < (x102001.length:Int) then (if (rd x102001 (rd x22 x24)) = (wrap64 ((rd x102001 x4) + 1)) then (if (rd x22 x24) < (x3.length:Int) then (if x4 < (x3.length:Int) then (impl_reach_ways.l1 k (x3.set ((rd x22 x24):Int).toNat (wrap64 ((rd x3 (rd x22 x24)) + (rd x3 x4)))) x4 x15 x16 x17 x22 x23 (wrap64 (x24 + 1)) x102000 x102001 x102002 x102003) else (none)) else (none)) else (impl_reach_ways.l1 k x3 x4 x15 x16 x17 x22 x23 (wrap64 (x24 + 1)) x102000 x102001 x102002 x102003)) else (none)) else (none)) else (none)) else (none)) else (none)) else (none)) else (impl_reach_ways.l0 k x3 x15 x16 (wrap64 (x17 + 1)) x102000 x102001 x102002 x102003)
end
theorem impl_reach_ways.mono_l:∀ k,(∀ y0 y1 y2 y3 y4 y5 y6 y7,LeO (impl_reach_ways.l0 k y0 y1 y2 y3 y4 y5 y6 y7) (impl_reach_ways.l0 (k + 1) y0 y1 y2 y3 y4 y5 y6 y7)) ∧ (∀ y0 y1 y2 y3 y4 y5 y6 y7 y8 y9 y10 y11,LeO (impl_reach_ways.l1 k y0 y1 y2 y3 y4 y5 y6 y7 y8 y9 y10 y11) (impl_reach_ways.l1 (k + 1) y0 y1 y2 y3 y4 y5 y6 y7 y8 y9 y10 y11))
 | 0=>⟨fun _ _ _ _ _ _ _ _ r h=>by simp [impl_reach_ways.l0] at h,fun _ _ _ _ _ _ _ _ _ _ _ _ r h=>by simp [impl_reach_ways.l1] at h⟩
 | k + 1=>by
  obtain ⟨ih0,ih1⟩:=impl_reach_ways.mono_l k
  refine ⟨?_,?_⟩
  ·intro y0 y1 y2 y3 y4 y5 y6 y7
   unfold impl_reach_ways.l0
   exact mo
  ·intro y0 y1 y2 y3 y4 y5 y6 y7 y8 y9 y10 y11
   unfold impl_reach_ways.l1
   exact mo
end Go.Proofs.YtldhkbiomingbaaGreatDoor.F

namespace Go.Proofs.YtldhkbiomingbaaGreatDoor.F
open Go.Proofs.YtldhkbiomingbaaGreatDoor
open Go.RowKit Go.YW.PrintWords Go.YW.PrintMore
theorem rd_casts {l:List Nat} {i:Nat} (h:i < l.length):rd (castsI l) (i:Int) = ((l.getD i 0:Nat):Int):=by
 unfold rd
 rw [Int.toNat_natCast,List.getD_eq_getElem?_getD,castsI_getD _ _ h,getD_lt h];rfl
end Go.Proofs.YtldhkbiomingbaaGreatDoor.F

namespace Go.Proofs.YtldhkbiomingbaaGreatDoor.F
open Go.Proofs.YtldhkbiomingbaaGreatDoor
open Go.RowKit Go.YW.PrintWords Go.YW.PrintLast Go.YW.PrintMore
attribute [local go_sem] max2_int min2_int max_two min_two max_three min_three max_four min_four
mutual
def impl_reach_reaching.l0:Nat → List (List Bool) → Int → Int → List ByteArray → List Int → List (List Int) → List ByteArray → Option ((List (List Bool)))
 | 0,_,_,_,_,_,_,_=>none
 | k + 1,x3,x13,x14,x102000,x102001,x102002,x102003=>if x14 < x13 then (if 0 ≤ (x102000.length:Int) then (if ((x102000.length:Int):Int).toNat ≤ 281474976710656 then ((some (List.replicate ((x102000.length:Int):Int).toNat false:List Bool)).bind fun y105=>(if 0 ≤ x14 then (if x14 < (y105.length:Int) then (impl_reach_reaching.l1 k x3 (y105.set (x14:Int).toNat true) (([x14]:List Int)) 0 x13 x14 x102000 x102001 x102002 x102003) else (none)) else (none))) else (none)) else (none)) else (some x3)
def impl_reach_reaching.l1:Nat → List (List Bool) → List Bool → List Int → Int → Int → Int → List ByteArray → List Int → List (List Int) → List ByteArray → Option ((List (List Bool)))
 | 0,_,_,_,_,_,_,_,_,_,_=>none
 | k + 1,x3,x5,x6,x7,x13,x14,x102000,x102001,x102002,x102003=>if x7 < (x6.length:Int) then (if 0 ≤ x7 then (if 0 ≤ (rd x6 x7) then (if (rd x6 x7) < (x102002.length:Int) then (impl_reach_reaching.l2 k x3 x5 x6 x7 x13 x14 (rd_L3 x102002 (rd x6 x7)) ((rd_L3 x102002 (rd x6 x7)).length:Int) 0 x102000 x102001 x102002 x102003) else (none)) else (none)) else (none)) else (if x3.length < 5864062014805 then (impl_reach_reaching.l0 k (x3 ++ [x5]) x13 (wrap64 (x14 + 1)) x102000 x102001 x102002 x102003) else (none))
def impl_reach_reaching.l2:Nat → List (List Bool) → List Bool → List Int → Int → Int → Int → List Int → Int → Int → List ByteArray → List Int → List (List Int) → List ByteArray → Option ((List (List Bool)))
 | 0,_,_,_,_,_,_,_,_,_,_,_,_,_=>none
 | k + 1,x3,x5,x6,x7,x13,x14,x39,x40,x41,x102000,x102001,x102002,x102003=>if x41 < x40 then (if 0 ≤ x41 then (if x41 < (x39.length:Int) then (if 0 ≤ (rd x39 x41) then (if (rd x39 x41) < (x5.length:Int) then (if (rdOf false x5 (rd x39 x41) = true) then (impl_reach_reaching.l2 k x3 x5 x6 x7 x13 x14 x39 x40 (wrap64 (x41 + 1)) x102000 x102001 x102002 x102003) else (if x6.length < 17592186044416 then (impl_reach_reaching.l2 k x3 (x5.set ((rd x39 x41):Int).toNat true) (x6 ++ [rd x39 x41]) x7 x13 x14 x39 x40 (wrap64 (x41 + 1)) x102000 x102001 x102002 x102003) else (none))) else (none)) else (none)) else (none)) else (none)) else (impl_reach_reaching.l1 k x3 x5 x6 (wrap64 (x7 + 1)) x13 x14 x102000 x102001 x102002 x102003)
end
def impl_reach_reaching.f (k:Nat) (l0_0:List ByteArray) (l0_1:List Int) (l0_2:List (List Int)) (l0_3:List ByteArray):Option ((List (List Bool))):=impl_reach_reaching.l0 k (([]:List (List Bool))) (l0_0.length:Int) 0 l0_0 l0_1 l0_2 l0_3
theorem impl_reach_reaching.mono_l:∀ k,(∀ y0 y1 y2 y3 y4 y5 y6,LeO (impl_reach_reaching.l0 k y0 y1 y2 y3 y4 y5 y6) (impl_reach_reaching.l0 (k + 1) y0 y1 y2 y3 y4 y5 y6)) ∧ (∀ y0 y1 y2 y3 y4 y5 y6 y7 y8 y9,LeO (impl_reach_reaching.l1 k y0 y1 y2 y3 y4 y5 y6 y7 y8 y9) (impl_reach_reaching.l1 (k + 1) y0 y1 y2 y3 y4 y5 y6 y7 y8 y9)) ∧ (∀ y0 y1 y2 y3 y4 y5 y6 y7 y8 y9 y10 y11 y12,LeO (impl_reach_reaching.l2 k y0 y1 y2 y3 y4 y5 y6 y7 y8 y9 y10 y11 y12) (impl_reach_reaching.l2 (k + 1) y0 y1 y2 y3 y4 y5 y6 y7 y8 y9 y10 y11 y12))
 | 0=>⟨fun _ _ _ _ _ _ _ r h=>by simp [impl_reach_reaching.l0] at h,fun _ _ _ _ _ _ _ _ _ _ r h=>by simp [impl_reach_reaching.l1] at h,fun _ _ _ _ _ _ _ _ _ _ _ _ _ r h=>by simp [impl_reach_reaching.l2] at h⟩
 | k + 1=>by
  obtain ⟨ih0,ih1,ih2⟩:=impl_reach_reaching.mono_l k
  refine ⟨?_,?_,?_⟩
  ·intro y0 y1 y2 y3 y4 y5 y6
   unfold impl_reach_reaching.l0
   exact mo
  ·intro y0 y1 y2 y3 y4 y5 y6 y7 y8 y9
   unfold impl_reach_reaching.l1
   exact mo
  ·intro y0 y1 y2 y3 y4 y5 y6 y7 y8 y9 y10 y11 y12
   unfold impl_reach_reaching.l2
   exact mo
theorem impl_reach_reaching.calls (k:Nat) (A0_0:Option Addr) (c0_0:Nat) (l0_0:List ByteArray) (A0_1:Option Addr) (c0_1:Nat) (l0_1:List Int) (A0_2:Option Addr) (c0_2:Nat) (l0_2:List (List Int)) (A0_3:Option Addr) (c0_3:Nat) (l0_3:List ByteArray) (r:List (List Bool)) (w:World) (hr0_0:Kd.C Kd.string w A0_0 l0_0.length l0_0) (hc0_0:l0_0.length ≤ c0_0) (hr0_1:Kd.C (Kd.int .i64) w A0_1 l0_1.length l0_1) (hc0_1:l0_1.length ≤ c0_1) (hr0_2:Kd.C (Kd.slice 3 (Kd.int .i64)) w A0_2 l0_2.length l0_2) (hc0_2:l0_2.length ≤ c0_2) (hr0_3:Kd.C Kd.string w A0_3 l0_3.length l0_3) (hc0_3:l0_3.length ≤ c0_3) (h:impl_reach_reaching.f k l0_0 l0_1 l0_2 l0_3 = some r) :
  Calls Tryz.prog 77 #[.agg #[.slice A0_0 l0_0.length c0_0,.slice A0_1 l0_1.length c0_1,.slice A0_2 l0_2.length c0_2,.slice A0_3 l0_3.length c0_3]] w fun e w'=>∃ v0_:Value,e = .returned (v0_) ∧ Kd.S (Kd.slice 4 Kd.bool) 81 w' w.heap.size (fun _=>True) v0_ r ∧ Below w.heap.size w w':=by
 have hu59:=Tryz.underlying59
 have HR0_0:=am hr0_0
 have HC0_0:=am hc0_0
 clear hr0_0 hc0_0
 have HR0_1:=am hr0_1
 have HC0_1:=am hc0_1
 clear hr0_1 hc0_1
 have HR0_2:=am hr0_2
 have HC0_2:=am hc0_2
 clear hr0_2 hc0_2
 have HR0_3:=am hr0_3
 have HC0_3:=am hc0_3
 clear hr0_3 hc0_3
 have HB:=am (Below.refl w.heap.size w)
 have H:(impl_reach_reaching.l0 k (([]:List (List Bool))) (l0_0.length:Int) 0 l0_0 l0_1 l0_2 l0_3) = some r:=h
 clear h
 obtain ⟨y102,hy_⟩:∃ y_:List (List Bool),y_ = (([]:List (List Bool))):=⟨_,rfl⟩
 replace H:(impl_reach_reaching.l0 k y102 (l0_0.length:Int) 0 l0_0 l0_1 l0_2 l0_3) = some r:=aq3
 have Ny102:=am hy_
 clear hy_
 have H':=am H
 clear H
 go_enter Tryz.func77,Tryz.ntmps77
 go_wp2_with (first | (refine bx 1 #[.slice A0_0 l0_0.length c0_0,.slice A0_1 l0_1.length c0_1,.slice A0_2 l0_2.length c0_2,.slice A0_3 l0_3.length c0_3] 59 ?_;intro gb101 hg w2 hbox hb;have BK101:=am (hbox);have GW101:=am ((by rw [hg];exact (below_size aq1):w.heap.size ≤ gb101));have GE101:=GW101;replace HB:=am (below_step aq1 hb);clear hb hbox hg) | ((with_reducible refine gate_dst (N:=10) rfl ?_);refine Kd.S_lit (Kd.slice 4 Kd.bool) _ 81 ?hg (N:=10) ?hd (xs:=([]:List (List Bool))) (inner:=[]) (ok:=fun _=>True) (okp:=fun _=>True) ?hr ?hp (fun _ hk=>hk) trivial (Below.refl _ _) (Nat.le_refl _) (by simp) ?_;(case hd=>rfl);(case hg=>rfl);(case hr=>exact aq12);(case hp=>exact aq83);intro v103 w3 ho4 hb hg_ hnew_;clear hg_ hnew_;(first | rw [← Ny102.out] at ho4 | (simp only [Int.reduceToNat] at ho4;rw [← Ny102.out] at ho4));have HO104:=am (Kd.S_lower ho4 (below_size aq0));replace BK101:=am (bb BK101 hb);replace HB:=am (below_step aq0 hb);clear hb ho4;obtain ⟨hcz5_0,hcz5_1,hcz5_2,hcz5_3,hfz5_0,hfz5_1,hfz5_2,hfz5_3⟩:=blk4_ BK101.out))
 repeat (go_quiet (first | (refine bx 1 #[.slice A0_0 l0_0.length c0_0,.slice A0_1 l0_1.length c0_1,.slice A0_2 l0_2.length c0_2,.slice A0_3 l0_3.length c0_3] 59 ?_;intro gb101 hg w2 hbox hb;have BK101:=am (hbox);have GW101:=am ((by rw [hg];exact (below_size aq1):w.heap.size ≤ gb101));have GE101:=GW101;replace HB:=am (below_step aq1 hb);clear hb hbox hg) | ((with_reducible refine gate_dst (N:=10) rfl ?_);refine Kd.S_lit (Kd.slice 4 Kd.bool) _ 81 ?hg (N:=10) ?hd (xs:=([]:List (List Bool))) (inner:=[]) (ok:=fun _=>True) (okp:=fun _=>True) ?hr ?hp (fun _ hk=>hk) trivial (Below.refl _ _) (Nat.le_refl _) (by simp) ?_;(case hd=>rfl);(case hg=>rfl);(case hr=>exact aq12);(case hp=>exact aq83);intro v103 w3 ho4 hb hg_ hnew_;clear hg_ hnew_;(first | rw [← Ny102.out] at ho4 | (simp only [Int.reduceToNat] at ho4;rw [← Ny102.out] at ho4));have HO104:=am (Kd.S_lower ho4 (below_size aq0));replace BK101:=am (bb BK101 hb);replace HB:=am (below_step aq0 hb);clear hb ho4;obtain ⟨hcz5_0,hcz5_1,hcz5_2,hcz5_3,hfz5_0,hfz5_1,hfz5_2,hfz5_3⟩:=blk4_ BK101.out));try go_wp2_with (first | (refine bx 1 #[.slice A0_0 l0_0.length c0_0,.slice A0_1 l0_1.length c0_1,.slice A0_2 l0_2.length c0_2,.slice A0_3 l0_3.length c0_3] 59 ?_;intro gb101 hg w2 hbox hb;have BK101:=am (hbox);have GW101:=am ((by rw [hg];exact (below_size aq1):w.heap.size ≤ gb101));have GE101:=GW101;replace HB:=am (below_step aq1 hb);clear hb hbox hg) | ((with_reducible refine gate_dst (N:=10) rfl ?_);refine Kd.S_lit (Kd.slice 4 Kd.bool) _ 81 ?hg (N:=10) ?hd (xs:=([]:List (List Bool))) (inner:=[]) (ok:=fun _=>True) (okp:=fun _=>True) ?hr ?hp (fun _ hk=>hk) trivial (Below.refl _ _) (Nat.le_refl _) (by simp) ?_;(case hd=>rfl);(case hg=>rfl);(case hr=>exact aq12);(case hp=>exact aq83);intro v103 w3 ho4 hb hg_ hnew_;clear hg_ hnew_;(first | rw [← Ny102.out] at ho4 | (simp only [Int.reduceToNat] at ho4;rw [← Ny102.out] at ho4));have HO104:=am (Kd.S_lower ho4 (below_size aq0));replace BK101:=am (bb BK101 hb);replace HB:=am (below_step aq0 hb);clear hb ho4;obtain ⟨hcz5_0,hcz5_1,hcz5_2,hcz5_3,hfz5_0,hfz5_1,hfz5_2,hfz5_3⟩:=blk4_ BK101.out)))
 go_loopg [3,14] k (fun kq v3 v14 w'=>∃ (x3_1:List (List Bool)) (x14_1:Int),v14 = .int .i64 x14_1 ∧ Aside0 (impl_reach_reaching.l0 kq x3_1 (l0_0.length:Int) x14_1 l0_0 l0_1 l0_2 l0_3 = some r) ∧ Aside0 (kq ≤ k) ∧ Aside0 (Kd.S (Kd.slice 4 Kd.bool) 81 w' w.heap.size (fun _=>True) v3 x3_1) ∧ Aside0 (w'.heap[gb101]? = some (.cells #[(.slice A0_0 l0_0.length c0_0),(.slice A0_1 l0_1.length c0_1),(.slice A0_2 l0_2.length c0_2),(.slice A0_3 l0_3.length c0_3)] 59 (0,0))) ∧ Aside0 (Below w.heap.size w w'))
 case atStart=>exact ⟨(y102),(0),aq6,H',⟨Nat.le_refl _⟩,⟨aq38⟩,⟨aq2⟩,⟨aq0⟩⟩
 case round =>
  clear H'
  try clear p2
  try clear hcz5_0
  try clear hcz5_1
  try clear hcz5_2
  try clear hcz5_3
  try clear hfz5_0
  try clear hfz5_1
  try clear hfz5_2
  try clear hfz5_3
  obtain ⟨x3_1,x14_1,rfl,HA,HK1,HO_3,BK101,HB⟩:=hrel
  cases gk with
  | zero=>exact absurd HA.out (by simp [impl_reach_reaching.l0])
  | succ k1 =>
   have H:=HA.out
   clear HA
   simp only [impl_reach_reaching.l0] at H
   by_cases c6:x14_1 < (l0_0.length:Int)
   rotate_left
   ·rw [if_neg c6] at H
    have c6b0:=decide_eq_false c6
    clear c6
    obtain rfl:=Option.some.inj H
    go_wp2
    repeat (go_quiet (fail);try go_wp2)
    go_ret
    exact ⟨_,aq8,aq14,aq0⟩
   rw [if_pos c6] at H
   have c6b0:=decide_eq_true c6
   clear c6
   replace H:=gd H
   obtain ⟨c7,H⟩:=H
   have c7b0:=eq_true c7
   have c7b1:=decide_eq_true c7
   clear c7
   replace H:=gd H
   obtain ⟨c8,H⟩:=H
   have c8b0:=eq_true c8
   have c8b1:=decide_eq_true c8
   clear c8
   obtain ⟨y105,hy_⟩:∃ y_:List Bool,y_ = (List.replicate ((l0_0.length:Int):Int).toNat false):=⟨_,rfl⟩
   replace H:(if 0 ≤ x14_1 then (if x14_1 < (y105.length:Int) then (impl_reach_reaching.l1 k1 x3_1 (y105.set (x14_1:Int).toNat true) (([x14_1]:List Int)) 0 (l0_0.length:Int) x14_1 l0_0 l0_1 l0_2 l0_3) else (none)) else (none)) = some r:=aq3
   have Ny105:=am hy_
   clear hy_
   obtain ⟨y108,hy_⟩:∃ y_:List Int,y_ = (([x14_1]:List Int)):=⟨_,rfl⟩
   replace H:(if 0 ≤ x14_1 then (if x14_1 < (y105.length:Int) then (impl_reach_reaching.l1 k1 x3_1 (y105.set (x14_1:Int).toNat true) y108 0 (l0_0.length:Int) x14_1 l0_0 l0_1 l0_2 l0_3) else (none)) else (none)) = some r:=aq3
   have Ny108:=am hy_
   clear hy_
   replace H:=gd H
   obtain ⟨c9,H⟩:=H
   have c9b0:=decide_eq_true c9
   clear c9
   replace H:=gd H
   obtain ⟨c10,H⟩:=H
   have c10b0:=decide_eq_true c10
   (try simp only [hl5_2] at c10b0);(try simp only [hl5_3] at c10b0)
   clear c10
   obtain ⟨y111,hy_⟩:∃ y_:List Bool,y_ = (y105.set (x14_1:Int).toNat true):=⟨_,rfl⟩
   replace H:(impl_reach_reaching.l1 k1 x3_1 y111 y108 0 (l0_0.length:Int) x14_1 l0_0 l0_1 l0_2 l0_3) = some r:=aq3
   have Ny111:=am hy_
   clear hy_
   have H':=am H
   clear H
   obtain ⟨hcz12_0,hcz12_1,hcz12_2,hcz12_3,hfz12_0,hfz12_1,hfz12_2,hfz12_3⟩:=blk4_ BK101.out
   go_wp2_with (first | ((with_reducible refine gate_dst (N:=20) rfl ?_);refine Kd.R_make Kd.bool _ 4 rfl (N:=20) rfl 81 _ _ rfl (l0_0.length:Int) rfl rfl Tryz.underlying81 (.bool false) 1 info4 rfl d_c o_m false (ok:=fun _=>True) (okp:=fun _=>True) rfl (fun _ hk=>hk) trivial (of_decide_eq_true aq4) (Nat.le_trans (Nat.mul_le_mul_right _ (of_decide_eq_true aq4:(l0_0.length:Int).toNat ≤ 281474976710656)) o_m) (Below.refl _ _) (Nat.le_refl _) ?_;intro v106 w13 ho14 hb hg_ hnew_;clear hg_ hnew_;(first | rw [← Ny105.out] at ho14 | (simp only [Int.reduceToNat] at ho14;rw [← Ny105.out] at ho14));replace HO_3:=am (Kd.S_elder' aq14 (Kd.R_base ho14) hb);have HO107:=am (Kd.R_lower ho14 (below_size aq0));replace BK101:=am (bb BK101 hb);replace HB:=am (below_step aq0 hb);clear hb ho14) | ((with_reducible refine gate_dst (N:=22) rfl ?_);refine Kd.R_lit (Kd.int .i64) _ 3 ?hg (N:=22) ?hd (xs:=([x14_1]:List Int)) (inner:=[.int .i64 x14_1]) (ok:=fun _=>True) (okp:=fun _=>True) ?hr ?hp (fun _ hk=>hk) trivial (Below.refl _ _) (Nat.le_refl _) (by simp) ?_;(case hd=>rfl);(case hg=>rfl);(case hr=>exact aq12);(case hp=>exact aq68);intro v109 w15 ho16 hb hg_ hnew_;clear hg_ hnew_;(first | rw [← Ny108.out] at ho16 | (simp only [Int.reduceToNat] at ho16;rw [← Ny108.out] at ho16));replace HO_3:=am (Kd.S_below aq14 hb);replace HO107:=am (Kd.R_below aq37 hb);have HO110:=am (Kd.R_lower ho16 (below_size aq0));replace BK101:=am (bb BK101 hb);replace HB:=am (below_step aq0 hb);clear hb ho16;have p11:0 ≤ (x14_1:Int):=of_decide_eq_true aq4;have q11:(x14_1:Int) < ((y105.length:Int):Int):=of_decide_eq_true aq4;obtain ⟨go11,co11,eo11,gb11,gl11,cl11,HG11⟩:=Kd.R_form HO107.out o_m;(first | cases eo11 | (injection eo11 with ea_ en_ ec_;(first | subst ea_ | (injection ea_ with ea_;subst ea_));subst ec_;clear en_));have GB11:=am gb11;have GG11:=am HG11;clear gb11 gl11 HG11;obtain ⟨hx11_0,hf11_0⟩:=Kd.R_celln false HO107.out (x14_1:Int) p11 q11;replace p11:=eq_true p11;replace q11:=eq_true q11;obtain ⟨hy17_,hz17_⟩:=Kd.R_celln false HO107.out (x14_1:Int) (of_decide_eq_true aq4) (of_decide_eq_true aq4);have HP17:=Kd.R_putg HO107.out (x14_1:Int) true) | ((with_reducible refine gate_store (t:=4) (p:=25) rfl ?_);(try (rw [drewN_self w15];generalize hq_:World.drewN w15 _ = w15;have n0_:=am (Kd.S_at hq_ HO_3.out);have n1_:=am (Kd.R_at hq_ HO107.out);have n2_:=am (Kd.R_at hq_ HO110.out);have n3_:=am (blk_at hq_ BK101.out);have n4_:=am (below_at hq_ HB.out);clear hq_ HO_3 HO107 HO110 BK101 HB;have HO_3:=n0_;have HO107:=n1_;have HO110:=n2_;have BK101:=n3_;have HB:=n4_;clear n0_ n1_ n2_ n3_ n4_;(try (obtain ⟨hy17_,hz17_⟩:=Kd.R_celln false HO107.out (x14_1:Int) (of_decide_eq_true aq4) (of_decide_eq_true aq4)));(try (have HP17:=Kd.R_putg HO107.out (x14_1:Int) true))));refine store_event (t:=4) (p:=25) (v:=?vo_w18) (w1:=(w15.setCell ⟨go11,(x14_1:Int).toNat,none⟩ (.bool true))) ?hg ?ho ?hn ?hr ?_;(case ho=>rfl);(case hg=>rfl);(case hn=>rfl);(case hr=>exact aq12);intro w18 hw;have hg:w15.grownBy w18 (some go11):=(by rw [hw];exact HP17.2);have hp_:Kd.R Kd.bool 4 w18 w.heap.size (fun _=>True) (.slice (some ⟨go11,0,none⟩) y105.length co11) y111:=(by rw [hw,Ny111.out];exact HP17.1);clear HP17;replace HO_3:=am (Kd.S_after (v:=(.slice (some ⟨go11,0,none⟩) y105.length co11)) (v1:=(.slice (some ⟨go11,0,none⟩) y105.length co11)) (ok:=(fun _=>True)) aq14 hg (.inl rfl));replace BK101:=am (bg BK101 hg (Kd.R_ne HO107.out BK101.out d_c));replace HO110:=am (Kd.R_over' (v:=(.slice (some ⟨go11,0,none⟩) y105.length co11)) aq29 (Kd.R_typed HO107.out) d_c hg);replace HO107:=am (hp_);replace HB:=am ((by rw [hw];exact below_set (HB.out) GB11.out:Below w.heap.size w w18));clear hg hw hp_))
   repeat (go_quiet (first | ((with_reducible refine gate_dst (N:=20) rfl ?_);refine Kd.R_make Kd.bool _ 4 rfl (N:=20) rfl 81 _ _ rfl (l0_0.length:Int) rfl rfl Tryz.underlying81 (.bool false) 1 info4 rfl d_c o_m false (ok:=fun _=>True) (okp:=fun _=>True) rfl (fun _ hk=>hk) trivial (of_decide_eq_true aq4) (Nat.le_trans (Nat.mul_le_mul_right _ (of_decide_eq_true aq4:(l0_0.length:Int).toNat ≤ 281474976710656)) o_m) (Below.refl _ _) (Nat.le_refl _) ?_;intro v106 w13 ho14 hb hg_ hnew_;clear hg_ hnew_;(first | rw [← Ny105.out] at ho14 | (simp only [Int.reduceToNat] at ho14;rw [← Ny105.out] at ho14));replace HO_3:=am (Kd.S_elder' aq14 (Kd.R_base ho14) hb);have HO107:=am (Kd.R_lower ho14 (below_size aq0));replace BK101:=am (bb BK101 hb);replace HB:=am (below_step aq0 hb);clear hb ho14) | ((with_reducible refine gate_dst (N:=22) rfl ?_);refine Kd.R_lit (Kd.int .i64) _ 3 ?hg (N:=22) ?hd (xs:=([x14_1]:List Int)) (inner:=[.int .i64 x14_1]) (ok:=fun _=>True) (okp:=fun _=>True) ?hr ?hp (fun _ hk=>hk) trivial (Below.refl _ _) (Nat.le_refl _) (by simp) ?_;(case hd=>rfl);(case hg=>rfl);(case hr=>exact aq12);(case hp=>exact aq68);intro v109 w15 ho16 hb hg_ hnew_;clear hg_ hnew_;(first | rw [← Ny108.out] at ho16 | (simp only [Int.reduceToNat] at ho16;rw [← Ny108.out] at ho16));replace HO_3:=am (Kd.S_below aq14 hb);replace HO107:=am (Kd.R_below aq37 hb);have HO110:=am (Kd.R_lower ho16 (below_size aq0));replace BK101:=am (bb BK101 hb);replace HB:=am (below_step aq0 hb);clear hb ho16;have p11:0 ≤ (x14_1:Int):=of_decide_eq_true aq4;have q11:(x14_1:Int) < ((y105.length:Int):Int):=of_decide_eq_true aq4;obtain ⟨go11,co11,eo11,gb11,gl11,cl11,HG11⟩:=Kd.R_form HO107.out o_m;(first | cases eo11 | (injection eo11 with ea_ en_ ec_;(first | subst ea_ | (injection ea_ with ea_;subst ea_));subst ec_;clear en_));have GB11:=am gb11;have GG11:=am HG11;clear gb11 gl11 HG11;obtain ⟨hx11_0,hf11_0⟩:=Kd.R_celln false HO107.out (x14_1:Int) p11 q11;replace p11:=eq_true p11;replace q11:=eq_true q11;obtain ⟨hy17_,hz17_⟩:=Kd.R_celln false HO107.out (x14_1:Int) (of_decide_eq_true aq4) (of_decide_eq_true aq4);have HP17:=Kd.R_putg HO107.out (x14_1:Int) true) | ((with_reducible refine gate_store (t:=4) (p:=25) rfl ?_);(try (rw [drewN_self w15];generalize hq_:World.drewN w15 _ = w15;have n0_:=am (Kd.S_at hq_ HO_3.out);have n1_:=am (Kd.R_at hq_ HO107.out);have n2_:=am (Kd.R_at hq_ HO110.out);have n3_:=am (blk_at hq_ BK101.out);have n4_:=am (below_at hq_ HB.out);clear hq_ HO_3 HO107 HO110 BK101 HB;have HO_3:=n0_;have HO107:=n1_;have HO110:=n2_;have BK101:=n3_;have HB:=n4_;clear n0_ n1_ n2_ n3_ n4_;(try (obtain ⟨hy17_,hz17_⟩:=Kd.R_celln false HO107.out (x14_1:Int) (of_decide_eq_true aq4) (of_decide_eq_true aq4)));(try (have HP17:=Kd.R_putg HO107.out (x14_1:Int) true))));refine store_event (t:=4) (p:=25) (v:=?vo_w18) (w1:=(w15.setCell ⟨go11,(x14_1:Int).toNat,none⟩ (.bool true))) ?hg ?ho ?hn ?hr ?_;(case ho=>rfl);(case hg=>rfl);(case hn=>rfl);(case hr=>exact aq12);intro w18 hw;have hg:w15.grownBy w18 (some go11):=(by rw [hw];exact HP17.2);have hp_:Kd.R Kd.bool 4 w18 w.heap.size (fun _=>True) (.slice (some ⟨go11,0,none⟩) y105.length co11) y111:=(by rw [hw,Ny111.out];exact HP17.1);clear HP17;replace HO_3:=am (Kd.S_after (v:=(.slice (some ⟨go11,0,none⟩) y105.length co11)) (v1:=(.slice (some ⟨go11,0,none⟩) y105.length co11)) (ok:=(fun _=>True)) aq14 hg (.inl rfl));replace BK101:=am (bg BK101 hg (Kd.R_ne HO107.out BK101.out d_c));replace HO110:=am (Kd.R_over' (v:=(.slice (some ⟨go11,0,none⟩) y105.length co11)) aq29 (Kd.R_typed HO107.out) d_c hg);replace HO107:=am (hp_);replace HB:=am ((by rw [hw];exact below_set (HB.out) GB11.out:Below w.heap.size w w18));clear hg hw hp_));try go_wp2_with (first | ((with_reducible refine gate_dst (N:=20) rfl ?_);refine Kd.R_make Kd.bool _ 4 rfl (N:=20) rfl 81 _ _ rfl (l0_0.length:Int) rfl rfl Tryz.underlying81 (.bool false) 1 info4 rfl d_c o_m false (ok:=fun _=>True) (okp:=fun _=>True) rfl (fun _ hk=>hk) trivial (of_decide_eq_true aq4) (Nat.le_trans (Nat.mul_le_mul_right _ (of_decide_eq_true aq4:(l0_0.length:Int).toNat ≤ 281474976710656)) o_m) (Below.refl _ _) (Nat.le_refl _) ?_;intro v106 w13 ho14 hb hg_ hnew_;clear hg_ hnew_;(first | rw [← Ny105.out] at ho14 | (simp only [Int.reduceToNat] at ho14;rw [← Ny105.out] at ho14));replace HO_3:=am (Kd.S_elder' aq14 (Kd.R_base ho14) hb);have HO107:=am (Kd.R_lower ho14 (below_size aq0));replace BK101:=am (bb BK101 hb);replace HB:=am (below_step aq0 hb);clear hb ho14) | ((with_reducible refine gate_dst (N:=22) rfl ?_);refine Kd.R_lit (Kd.int .i64) _ 3 ?hg (N:=22) ?hd (xs:=([x14_1]:List Int)) (inner:=[.int .i64 x14_1]) (ok:=fun _=>True) (okp:=fun _=>True) ?hr ?hp (fun _ hk=>hk) trivial (Below.refl _ _) (Nat.le_refl _) (by simp) ?_;(case hd=>rfl);(case hg=>rfl);(case hr=>exact aq12);(case hp=>exact aq68);intro v109 w15 ho16 hb hg_ hnew_;clear hg_ hnew_;(first | rw [← Ny108.out] at ho16 | (simp only [Int.reduceToNat] at ho16;rw [← Ny108.out] at ho16));replace HO_3:=am (Kd.S_below aq14 hb);replace HO107:=am (Kd.R_below aq37 hb);have HO110:=am (Kd.R_lower ho16 (below_size aq0));replace BK101:=am (bb BK101 hb);replace HB:=am (below_step aq0 hb);clear hb ho16;have p11:0 ≤ (x14_1:Int):=of_decide_eq_true aq4;have q11:(x14_1:Int) < ((y105.length:Int):Int):=of_decide_eq_true aq4;obtain ⟨go11,co11,eo11,gb11,gl11,cl11,HG11⟩:=Kd.R_form HO107.out o_m;(first | cases eo11 | (injection eo11 with ea_ en_ ec_;(first | subst ea_ | (injection ea_ with ea_;subst ea_));subst ec_;clear en_));have GB11:=am gb11;have GG11:=am HG11;clear gb11 gl11 HG11;obtain ⟨hx11_0,hf11_0⟩:=Kd.R_celln false HO107.out (x14_1:Int) p11 q11;replace p11:=eq_true p11;replace q11:=eq_true q11;obtain ⟨hy17_,hz17_⟩:=Kd.R_celln false HO107.out (x14_1:Int) (of_decide_eq_true aq4) (of_decide_eq_true aq4);have HP17:=Kd.R_putg HO107.out (x14_1:Int) true) | ((with_reducible refine gate_store (t:=4) (p:=25) rfl ?_);(try (rw [drewN_self w15];generalize hq_:World.drewN w15 _ = w15;have n0_:=am (Kd.S_at hq_ HO_3.out);have n1_:=am (Kd.R_at hq_ HO107.out);have n2_:=am (Kd.R_at hq_ HO110.out);have n3_:=am (blk_at hq_ BK101.out);have n4_:=am (below_at hq_ HB.out);clear hq_ HO_3 HO107 HO110 BK101 HB;have HO_3:=n0_;have HO107:=n1_;have HO110:=n2_;have BK101:=n3_;have HB:=n4_;clear n0_ n1_ n2_ n3_ n4_;(try (obtain ⟨hy17_,hz17_⟩:=Kd.R_celln false HO107.out (x14_1:Int) (of_decide_eq_true aq4) (of_decide_eq_true aq4)));(try (have HP17:=Kd.R_putg HO107.out (x14_1:Int) true))));refine store_event (t:=4) (p:=25) (v:=?vo_w18) (w1:=(w15.setCell ⟨go11,(x14_1:Int).toNat,none⟩ (.bool true))) ?hg ?ho ?hn ?hr ?_;(case ho=>rfl);(case hg=>rfl);(case hn=>rfl);(case hr=>exact aq12);intro w18 hw;have hg:w15.grownBy w18 (some go11):=(by rw [hw];exact HP17.2);have hp_:Kd.R Kd.bool 4 w18 w.heap.size (fun _=>True) (.slice (some ⟨go11,0,none⟩) y105.length co11) y111:=(by rw [hw,Ny111.out];exact HP17.1);clear HP17;replace HO_3:=am (Kd.S_after (v:=(.slice (some ⟨go11,0,none⟩) y105.length co11)) (v1:=(.slice (some ⟨go11,0,none⟩) y105.length co11)) (ok:=(fun _=>True)) aq14 hg (.inl rfl));replace BK101:=am (bg BK101 hg (Kd.R_ne HO107.out BK101.out d_c));replace HO110:=am (Kd.R_over' (v:=(.slice (some ⟨go11,0,none⟩) y105.length co11)) aq29 (Kd.R_typed HO107.out) d_c hg);replace HO107:=am (hp_);replace HB:=am ((by rw [hw];exact below_set (HB.out) GB11.out:Below w.heap.size w w18));clear hg hw hp_)))
   go_loopg [6,7] k1 (fun kq v6 v7 w'=>∃ (x5_2:List Bool) (x6_2:List Int) (x7_2:Int),v7 = .int .i64 x7_2 ∧ Aside0 (impl_reach_reaching.l1 kq x3_1 x5_2 x6_2 x7_2 (l0_0.length:Int) x14_1 l0_0 l0_1 l0_2 l0_3 = some r) ∧ Aside0 (kq ≤ k1) ∧ Aside0 (Kd.S (Kd.slice 4 Kd.bool) 81 w' w.heap.size (fun k_=>some k_ ≠ ((.slice (some ⟨go11,0,none⟩) y105.length co11):Value).ownBlock) u3 x3_1) ∧ Aside0 (Kd.R Kd.bool 4 w' w.heap.size (fun _=>True) (.slice (some ⟨go11,0,none⟩) y105.length co11) x5_2) ∧ Aside0 (Kd.R (Kd.int .i64) 3 w' w.heap.size (fun _=>True) v6 x6_2) ∧ Aside0 (w'.heap[gb101]? = some (.cells #[(.slice A0_0 l0_0.length c0_0),(.slice A0_1 l0_1.length c0_1),(.slice A0_2 l0_2.length c0_2),(.slice A0_3 l0_3.length c0_3)] 59 (0,0))) ∧ Aside0 (Below w.heap.size w w'))
   case atStart=>exact ⟨(y111),(y108),(0),aq6,H',⟨Nat.le_refl _⟩,⟨by (with_reducible repeat (first | apply Kd.S_alloc | apply Kd.S_drewN | apply Kd.S_drew));exact Kd.S_mono HO_3.out (fun _ hk=>hk.2)⟩,⟨aq37⟩,⟨aq29⟩,⟨aq2⟩,⟨aq0⟩⟩
   case round =>
    clear H'
    try clear c1
    try clear p1
    try clear q1
    try clear hx1
    try clear hf1
    try clear p2
    try clear c6
    try clear c6b0
    try clear c7
    try clear c7b0
    try clear c7b1
    try clear c8
    try clear c8b0
    try clear c8b1
    try clear c9
    try clear c9b0
    try clear c10
    try clear c10b0
    try clear p11
    try clear q11
    try clear hx11
    try clear hf11
    try clear hcz12_0
    try clear hcz12_1
    try clear hcz12_2
    try clear hcz12_3
    try clear hcz5_0
    try clear hcz5_1
    try clear hcz5_2
    try clear hcz5_3
    try clear hfz12_0
    try clear hfz12_1
    try clear hfz12_2
    try clear hfz12_3
    try clear hfz5_0
    try clear hfz5_1
    try clear hfz5_2
    try clear hfz5_3
    try clear hx11_0
    try clear p11
    try clear p2
    try clear q11
    obtain ⟨x5_2,x6_2,x7_2,rfl,HA,HK2,HO_3,HO_5,HO_6,BK101,HB⟩:=hrel
    have hl5_2:=(Kd.R_reads' HO_5.out).1
    rw [hl5_2] at HO_5
    (try simp only [hl5_2])
    (try simp only [hl5_2] at BK101)
    (try simp only [hl5_2] at HO_3)
    (try simp only [hl5_2] at HO_6)
    cases gk with
    | zero=>exact absurd HA.out (by simp [impl_reach_reaching.l1])
    | succ k2 =>
     have H:=HA.out
     clear HA
     simp only [impl_reach_reaching.l1] at H
     by_cases c19:x7_2 < (x6_2.length:Int)
     rotate_left
     ·rw [if_neg c19] at H
      have c19b0:=decide_eq_false c19
      clear c19
      replace H:=gd H
      obtain ⟨c37,H⟩:=H
      have LMc37:=am c37
      clear c37
      obtain ⟨y112,hy_⟩:∃ y_:List (List Bool),y_ = (x3_1 ++ [x5_2]):=⟨_,rfl⟩
      replace H:(impl_reach_reaching.l0 k2 y112 (l0_0.length:Int) (wrap64 (x14_1 + 1)) l0_0 l0_1 l0_2 l0_3) = some r:=aq3
      have Ny112:=am hy_
      clear hy_
      have H':=am H
      clear H
      obtain ⟨Ao38,co38,eo38⟩:=Kd.R_slice HO_6.out
      subst eo38
      go_wp2_with (first | ((with_reducible refine gate_builtin (b:=.append) (xs:=#[.tmp 58,.tmp 60]) rfl ?_);at_builtin;refine Kd.S_append (Kd.slice 4 Kd.bool) (w0:=w) w.heap.size rfl (.tmp 58) (.tmp 60) 100 81 (.slice none 0 0) 24 rfl Tryz.underlying100 info81 rfl d_c o_m u3 x3_1 x5_2 [.slice (some ⟨go11,0,none⟩) x5_2.length co11] (fun _=>True) (fun k_=>some k_ = (.slice (some ⟨go11,0,none⟩) x5_2.length co11:Value).ownBlock) rfl rfl ?aP (fun k_ hk_=>((Kd.R_mono (ok':=fun k_=>((fun _=>True)) k_ ∧ some k_ ≠ (u3:Value).ownBlock) (Kd.R_apart' (HO_5.out) (Kd.S_typed HO_3.out) d_c) (fun k_ hk=>⟨trivial,hk.2⟩))).1 k_ hk_.symm) ?aF ?aO ?aB ?aS ?aL ?_;(case aP=>exact aq35);(case aB=>exact aq0);(case aF=>exact aq51);(case aO=>exact aq48);(case aS=>exact aq52);(case aL=>have:=LMc37.out;omega);intro v113 w39 ho hb hg hat;rw [← Ny112.out] at ho;replace HO_6:=am (Kd.R_over' aq16 (Kd.S_typed aq14) d_c hg);replace BK101:=am (bg BK101 hg (Kd.S_ne HO_3.out BK101.out d_c));replace HB:=am (hb);have HO114:=am (ho);clear HO_3 HO_5 ho hb hg hat))
      repeat (go_quiet (first | ((with_reducible refine gate_builtin (b:=.append) (xs:=#[.tmp 58,.tmp 60]) rfl ?_);at_builtin;refine Kd.S_append (Kd.slice 4 Kd.bool) (w0:=w) w.heap.size rfl (.tmp 58) (.tmp 60) 100 81 (.slice none 0 0) 24 rfl Tryz.underlying100 info81 rfl d_c o_m u3 x3_1 x5_2 [.slice (some ⟨go11,0,none⟩) x5_2.length co11] (fun _=>True) (fun k_=>some k_ = (.slice (some ⟨go11,0,none⟩) x5_2.length co11:Value).ownBlock) rfl rfl ?aP (fun k_ hk_=>((Kd.R_mono (ok':=fun k_=>((fun _=>True)) k_ ∧ some k_ ≠ (u3:Value).ownBlock) (Kd.R_apart' (HO_5.out) (Kd.S_typed HO_3.out) d_c) (fun k_ hk=>⟨trivial,hk.2⟩))).1 k_ hk_.symm) ?aF ?aO ?aB ?aS ?aL ?_;(case aP=>exact aq35);(case aB=>exact aq0);(case aF=>exact aq51);(case aO=>exact aq48);(case aS=>exact aq52);(case aL=>have:=LMc37.out;omega);intro v113 w39 ho hb hg hat;rw [← Ny112.out] at ho;replace HO_6:=am (Kd.R_over' aq16 (Kd.S_typed aq14) d_c hg);replace BK101:=am (bg BK101 hg (Kd.S_ne HO_3.out BK101.out d_c));replace HB:=am (hb);have HO114:=am (ho);clear HO_3 HO_5 ho hb hg hat));try go_wp2_with (first | ((with_reducible refine gate_builtin (b:=.append) (xs:=#[.tmp 58,.tmp 60]) rfl ?_);at_builtin;refine Kd.S_append (Kd.slice 4 Kd.bool) (w0:=w) w.heap.size rfl (.tmp 58) (.tmp 60) 100 81 (.slice none 0 0) 24 rfl Tryz.underlying100 info81 rfl d_c o_m u3 x3_1 x5_2 [.slice (some ⟨go11,0,none⟩) x5_2.length co11] (fun _=>True) (fun k_=>some k_ = (.slice (some ⟨go11,0,none⟩) x5_2.length co11:Value).ownBlock) rfl rfl ?aP (fun k_ hk_=>((Kd.R_mono (ok':=fun k_=>((fun _=>True)) k_ ∧ some k_ ≠ (u3:Value).ownBlock) (Kd.R_apart' (HO_5.out) (Kd.S_typed HO_3.out) d_c) (fun k_ hk=>⟨trivial,hk.2⟩))).1 k_ hk_.symm) ?aF ?aO ?aB ?aS ?aL ?_;(case aP=>exact aq35);(case aB=>exact aq0);(case aF=>exact aq51);(case aO=>exact aq48);(case aS=>exact aq52);(case aL=>have:=LMc37.out;omega);intro v113 w39 ho hb hg hat;rw [← Ny112.out] at ho;replace HO_6:=am (Kd.R_over' aq16 (Kd.S_typed aq14) d_c hg);replace BK101:=am (bg BK101 hg (Kd.S_ne HO_3.out BK101.out d_c));replace HB:=am (hb);have HO114:=am (ho);clear HO_3 HO_5 ho hb hg hat)))
      (try simp only [← hl5_2])
      go_roundg k2
      case measure=>have:=HK1.out;have:=HK2.out;omega
      case rel=>exact ⟨(y112),(wrap64 (x14_1 + 1)),aq6,H',⟨aq44⟩,⟨by (try simp only [hl5_2]);(with_reducible repeat (first | apply Kd.S_alloc | apply Kd.S_drewN | apply Kd.S_drew));exact HO114.out⟩,⟨aq81⟩,⟨aq0⟩⟩
     rw [if_pos c19] at H
     have c19b0:=decide_eq_true c19
     clear c19
     replace H:=gd H
     obtain ⟨c20,H⟩:=H
     have c20b0:=decide_eq_true c20
     clear c20
     replace H:=gd H
     obtain ⟨c21,H⟩:=H
     have c21b0:=decide_eq_true c21
     clear c21
     replace H:=gd H
     obtain ⟨c22,H⟩:=H
     have c22b0:=decide_eq_true c22
     clear c22
     have H':=am H
     clear H
     obtain ⟨Ao23,co23,eo23⟩:=Kd.R_slice HO_6.out
     subst eo23
     obtain ⟨hcz24_0,hcz24_1,hcz24_2,hcz24_3,hfz24_0,hfz24_1,hfz24_2,hfz24_3⟩:=blk4_ BK101.out
     have p115:0 ≤ (x7_2:Int):=of_decide_eq_true aq4
     have q115:x7_2 < (x6_2.length:Int):=of_decide_eq_true aq4
     obtain ⟨ad115,e115,hx115_0⟩:=Kd.at_int (Kd.R_reads' HO_6.out).2.2 x7_2 p115 q115
     cases e115
     replace p115:=eq_true p115
     replace q115:=eq_true q115
     have p116:0 ≤ ((rd x6_2 x7_2):Int):=of_decide_eq_true aq4
     have q116:(rd x6_2 x7_2) < (l0_2.length:Int):=of_decide_eq_true aq4
     obtain ⟨ad116,A116_0,c116_0,e116,hx116_0,hl116_0,hi116_0⟩:=at_L3 HR0_2.out (rd x6_2 x7_2) p116 q116
     cases e116
     try replace hx116_0:=(HB.out.cell (World.block_lt_of_cell? w _ hx116_0)).trans hx116_0
     have HR116_0:=am hi116_0
     have HC116_0:=am hl116_0
     clear hi116_0 hl116_0
     replace p116:=eq_true p116
     replace q116:=eq_true q116
     go_wp2
     repeat (go_quiet (fail);try go_wp2)
     go_loopg [6,41] k2 (fun kq v6 v41 w'=>∃ (x5_3:List Bool) (x6_3:List Int) (x41_3:Int),v41 = .int .i64 x41_3 ∧ Aside0 (impl_reach_reaching.l2 kq x3_1 x5_3 x6_3 x7_2 (l0_0.length:Int) x14_1 (rd_L3 l0_2 (rd x6_2 x7_2)) ((rd_L3 l0_2 (rd x6_2 x7_2)).length:Int) x41_3 l0_0 l0_1 l0_2 l0_3 = some r) ∧ Aside0 (kq ≤ k2) ∧ Aside0 (Kd.S (Kd.slice 4 Kd.bool) 81 w' w.heap.size (fun k_=>some k_ ≠ ((.slice (some ⟨go11,0,none⟩) x5_2.length co11):Value).ownBlock) u3 x3_1) ∧ Aside0 (Kd.R Kd.bool 4 w' w.heap.size (fun _=>True) (.slice (some ⟨go11,0,none⟩) x5_2.length co11) x5_3) ∧ Aside0 (Kd.R (Kd.int .i64) 3 w' w.heap.size (fun _=>True) v6 x6_3) ∧ Aside0 (w'.heap[gb101]? = some (.cells #[(.slice A0_0 l0_0.length c0_0),(.slice A0_1 l0_1.length c0_1),(.slice (some ad116) l0_2.length c0_2),(.slice A0_3 l0_3.length c0_3)] 59 (0,0))) ∧ Aside0 (Below w.heap.size w w'))
     case atStart=>exact ⟨(x5_2),(x6_2),(0),aq6,H',⟨Nat.le_refl _⟩,⟨by (try simp only [hl5_2]);(with_reducible repeat (first | apply Kd.S_alloc | apply Kd.S_drewN | apply Kd.S_drew));exact HO_3.out⟩,⟨by (try simp only [hl5_2]);(with_reducible repeat (first | apply Kd.R_alloc | apply Kd.R_drewN | apply Kd.R_drew));exact HO_5.out⟩,⟨by (try simp only [hl5_2]);(with_reducible repeat (first | apply Kd.R_alloc | apply Kd.R_drewN | apply Kd.R_drew));exact HO_6.out⟩,⟨aq81⟩,⟨aq0⟩⟩
     case round =>
      clear H'
      try clear c1
      try clear p1
      try clear q1
      try clear hx1
      try clear hf1
      try clear c2
      try clear p2
      try clear c6
      try clear c6b0
      try clear c7
      try clear c7b0
      try clear c7b1
      try clear c8
      try clear c8b0
      try clear c8b1
      try clear c9
      try clear c9b0
      try clear c10
      try clear c10b0
      try clear c11
      try clear p11
      try clear q11
      try clear hx11
      try clear hf11
      try clear c19
      try clear c19b0
      try clear c20
      try clear c20b0
      try clear c21
      try clear c21b0
      try clear c22
      try clear c22b0
      try clear hcz12_0
      try clear hcz12_1
      try clear hcz12_2
      try clear hcz12_3
      try clear hcz24_0
      try clear hcz24_1
      try clear hcz24_2
      try clear hcz24_3
      try clear hcz5_0
      try clear hcz5_1
      try clear hcz5_2
      try clear hcz5_3
      try clear hfz12_0
      try clear hfz12_1
      try clear hfz12_2
      try clear hfz12_3
      try clear hfz24_0
      try clear hfz24_1
      try clear hfz24_2
      try clear hfz24_3
      try clear hfz5_0
      try clear hfz5_1
      try clear hfz5_2
      try clear hfz5_3
      try clear hx115_0
      try clear hx116_0
      try clear hx11_0
      try clear p1
      try clear p11
      try clear p115
      try clear p116
      try clear p2
      try clear q1
      try clear q11
      try clear q115
      try clear q116
      obtain ⟨x5_3,x6_3,x41_3,rfl,HA,HK3,HO_3,HO_5,HO_6,BK101,HB⟩:=hrel
      have hl5_3:=(Kd.R_reads' HO_5.out).1
      rw [hl5_3] at HO_5
      (try simp only [hl5_3])
      (try simp only [hl5_3] at BK101)
      (try simp only [hl5_3] at HO_3)
      (try simp only [hl5_3] at HO_6)
      cases gk with
      | zero=>exact absurd HA.out (by simp [impl_reach_reaching.l2])
      | succ k3 =>
       have H:=HA.out
       clear HA
       simp only [impl_reach_reaching.l2] at H
       by_cases c25:x41_3 < ((rd_L3 l0_2 (rd x6_2 x7_2)).length:Int)
       rotate_left
       ·rw [if_neg c25] at H
        have c25b0:=decide_eq_false c25
        clear c25
        have H':=am H
        clear H
        go_wp2
        repeat (go_quiet (fail);try go_wp2)
        (try simp only [← hl5_2,← hl5_3])
        go_roundg k3
        case measure=>have:=HK1.out;have:=HK2.out;have:=HK3.out;omega
        case rel=>exact ⟨(x5_3),(x6_3),(wrap64 (x7_2 + 1)),aq6,H',⟨by have:=HK1.out;have:=HK2.out;have:=HK3.out;omega⟩,⟨aq75⟩,⟨aq50⟩,⟨aq76⟩,⟨aq45⟩,⟨aq0⟩⟩
       rw [if_pos c25] at H
       have c25b0:=decide_eq_true c25
       clear c25
       replace H:=gd H
       obtain ⟨c26,H⟩:=H
       have c26b0:=decide_eq_true c26
       clear c26
       replace H:=gd H
       obtain ⟨c27,H⟩:=H
       have c27b0:=decide_eq_true c27
       clear c27
       replace H:=gd H
       obtain ⟨c28,H⟩:=H
       have c28b0:=decide_eq_true c28
       clear c28
       replace H:=gd H
       obtain ⟨c29,H⟩:=H
       have c29b0:=decide_eq_true c29
       clear c29
       obtain ⟨bq30,hbq30⟩:∃ b_:Bool,b_ = (rdOf false x5_3 (rd (rd_L3 l0_2 (rd x6_2 x7_2)) x41_3)):=⟨_,rfl⟩
       replace H:(if (bq30 = true) then (impl_reach_reaching.l2 k3 x3_1 x5_3 x6_3 x7_2 (l0_0.length:Int) x14_1 (rd_L3 l0_2 (rd x6_2 x7_2)) ((rd_L3 l0_2 (rd x6_2 x7_2)).length:Int) (wrap64 (x41_3 + 1)) l0_0 l0_1 l0_2 l0_3) else (if x6_3.length < 17592186044416 then (impl_reach_reaching.l2 k3 x3_1 (x5_3.set ((rd (rd_L3 l0_2 (rd x6_2 x7_2)) x41_3):Int).toNat true) (x6_3 ++ [rd (rd_L3 l0_2 (rd x6_2 x7_2)) x41_3]) x7_2 (l0_0.length:Int) x14_1 (rd_L3 l0_2 (rd x6_2 x7_2)) ((rd_L3 l0_2 (rd x6_2 x7_2)).length:Int) (wrap64 (x41_3 + 1)) l0_0 l0_1 l0_2 l0_3) else (none))) = some r:=by rw [← hbq30] at H;exact H
       have Nbq30:=am hbq30
       clear hbq30
       by_cases c31:(bq30 = true)
       ·subst c31
        rw [if_pos rfl] at H
        have H':=am H
        clear H
        have p117:0 ≤ (x41_3:Int):=of_decide_eq_true aq4
        have q117:x41_3 < ((rd_L3 l0_2 (rd x6_2 x7_2)).length:Int):=of_decide_eq_true aq4
        obtain ⟨ad117,e117,hx117_0⟩:=Kd.at_int HR116_0.out x41_3 p117 q117
        cases e117
        try replace hx117_0:=(HB.out.cell (World.block_lt_of_cell? w _ hx117_0)).trans hx117_0
        replace p117:=eq_true p117
        replace q117:=eq_true q117
        have p118:0 ≤ ((rd (rd_L3 l0_2 (rd x6_2 x7_2)) x41_3):Int):=of_decide_eq_true aq4
        have q118:(rd (rd_L3 l0_2 (rd x6_2 x7_2)) x41_3) < (x5_3.length:Int):=of_decide_eq_true aq4
        obtain ⟨ad118,e118,hx118_0⟩:=Kd.at_bool (Kd.R_reads' HO_5.out).2.2 (rd (rd_L3 l0_2 (rd x6_2 x7_2)) x41_3) p118 q118
        (try rw [← Nbq30.out] at hx118_0)
        obtain rfl:(⟨go11,0,none⟩:Addr) = ad118:=(by injection e118)
        (first | simp only [add_plain] at hx118_0 | simp only [add_at] at hx118_0 | simp only [Addr.add,Nat.zero_add] at hx118_0 | skip)
        replace p118:=eq_true p118
        replace q118:=eq_true q118
        go_wp2
        repeat (go_quiet (fail);try go_wp2)
        (try simp only [← hl5_3])
        go_roundg k3
        case measure=>have:=HK1.out;have:=HK2.out;have:=HK3.out;omega
        case rel=>exact ⟨(x5_3),(x6_3),(wrap64 (x41_3 + 1)),aq6,H',⟨by have:=HK1.out;have:=HK2.out;have:=HK3.out;omega⟩,⟨aq75⟩,⟨aq50⟩,⟨aq76⟩,⟨aq45⟩,⟨aq0⟩⟩
       replace c31:=Bool.eq_false_iff.mpr c31
       subst c31
       rw [if_neg Bool.false_ne_true] at H
       obtain ⟨y119,hy_⟩:∃ y_:List Bool,y_ = (x5_3.set ((rd (rd_L3 l0_2 (rd x6_2 x7_2)) x41_3):Int).toNat true):=⟨_,rfl⟩
       replace H:(if x6_3.length < 17592186044416 then (impl_reach_reaching.l2 k3 x3_1 y119 (x6_3 ++ [rd (rd_L3 l0_2 (rd x6_2 x7_2)) x41_3]) x7_2 (l0_0.length:Int) x14_1 (rd_L3 l0_2 (rd x6_2 x7_2)) ((rd_L3 l0_2 (rd x6_2 x7_2)).length:Int) (wrap64 (x41_3 + 1)) l0_0 l0_1 l0_2 l0_3) else (none)) = some r:=aq3
       have Ny119:=am hy_
       clear hy_
       replace H:=gd H
       obtain ⟨c33,H⟩:=H
       have LMc33:=am c33
       clear c33
       obtain ⟨y120,hy_⟩:∃ y_:List Int,y_ = (x6_3 ++ [rd (rd_L3 l0_2 (rd x6_2 x7_2)) x41_3]):=⟨_,rfl⟩
       replace H:(impl_reach_reaching.l2 k3 x3_1 y119 y120 x7_2 (l0_0.length:Int) x14_1 (rd_L3 l0_2 (rd x6_2 x7_2)) ((rd_L3 l0_2 (rd x6_2 x7_2)).length:Int) (wrap64 (x41_3 + 1)) l0_0 l0_1 l0_2 l0_3) = some r:=aq3
       have Ny120:=am hy_
       clear hy_
       have H':=am H
       clear H
       have p117:0 ≤ (x41_3:Int):=of_decide_eq_true aq4
       have q117:x41_3 < ((rd_L3 l0_2 (rd x6_2 x7_2)).length:Int):=of_decide_eq_true aq4
       obtain ⟨ad117,e117,hx117_0⟩:=Kd.at_int HR116_0.out x41_3 p117 q117
       cases e117
       try replace hx117_0:=(HB.out.cell (World.block_lt_of_cell? w _ hx117_0)).trans hx117_0
       replace p117:=eq_true p117
       replace q117:=eq_true q117
       have p118:0 ≤ ((rd (rd_L3 l0_2 (rd x6_2 x7_2)) x41_3):Int):=of_decide_eq_true aq4
       have q118:(rd (rd_L3 l0_2 (rd x6_2 x7_2)) x41_3) < (x5_3.length:Int):=of_decide_eq_true aq4
       obtain ⟨ad118,e118,hx118_0⟩:=Kd.at_bool (Kd.R_reads' HO_5.out).2.2 (rd (rd_L3 l0_2 (rd x6_2 x7_2)) x41_3) p118 q118
       (try rw [← Nbq30.out] at hx118_0)
       obtain rfl:(⟨go11,0,none⟩:Addr) = ad118:=(by injection e118)
       (first | simp only [add_plain] at hx118_0 | simp only [add_at] at hx118_0 | simp only [Addr.add,Nat.zero_add] at hx118_0 | skip)
       replace p118:=eq_true p118
       replace q118:=eq_true q118
       have p32:0 ≤ ((rd (rd_L3 l0_2 (rd x6_2 x7_2)) x41_3):Int):=of_decide_eq_true aq4
       have q32:((rd (rd_L3 l0_2 (rd x6_2 x7_2)) x41_3):Int) < ((x5_3.length:Int):Int):=of_decide_eq_true aq4
       obtain ⟨hx32_0,hf32_0⟩:=Kd.R_celln false HO_5.out ((rd (rd_L3 l0_2 (rd x6_2 x7_2)) x41_3):Int) p32 q32
       replace p32:=eq_true p32
       replace q32:=eq_true q32
       have HP34:=Kd.R_putg HO_5.out ((rd (rd_L3 l0_2 (rd x6_2 x7_2)) x41_3):Int) true
       go_wp2_with (first | ((with_reducible refine gate_store (t:=4) (p:=52) rfl ?_);(try (rw [drewN_self wr];generalize hq_:World.drewN wr _ = wr;have n0_:=am (Kd.S_at hq_ HO_3.out);have n1_:=am (Kd.R_at hq_ HO_5.out);have n2_:=am (Kd.R_at hq_ HO_6.out);have n3_:=am (blk_at hq_ BK101.out);have n4_:=am (below_at hq_ HB.out);clear hq_ HO_3 HO_5 HO_6 BK101 HB;have HO_3:=n0_;have HO_5:=n1_;have HO_6:=n2_;have BK101:=n3_;have HB:=n4_;clear n0_ n1_ n2_ n3_ n4_;(try (have HP34:=Kd.R_putg HO_5.out ((rd (rd_L3 l0_2 (rd x6_2 x7_2)) x41_3):Int) true))));refine store_event (t:=4) (p:=52) (v:=?vo_w35) (w1:=(wr.setCell ⟨go11,((rd (rd_L3 l0_2 (rd x6_2 x7_2)) x41_3):Int).toNat,none⟩ (.bool true))) ?hg ?ho ?hn ?hr ?_;(case ho=>rfl);(case hg=>rfl);(case hn=>rfl);(case hr=>exact aq12);intro w35 hw;have hg:wr.grownBy w35 (some go11):=(by rw [hw];exact HP34.2);have hp_:Kd.R Kd.bool 4 w35 w.heap.size (fun _=>True) (.slice (some ⟨go11,0,none⟩) x5_3.length co11) y119:=(by rw [hw,Ny119.out];exact HP34.1);clear HP34;replace HO_3:=am (Kd.S_after (v:=(.slice (some ⟨go11,0,none⟩) x5_3.length co11)) (v1:=(.slice (some ⟨go11,0,none⟩) x5_3.length co11)) (ok:=(fun _=>True)) aq54 hg (.inl rfl));replace HO_6:=am (Kd.R_over' (v:=(.slice (some ⟨go11,0,none⟩) x5_3.length co11)) aq16 (Kd.R_typed HO_5.out) d_c hg);replace BK101:=am (bg BK101 hg (Kd.R_ne HO_5.out BK101.out d_c));replace HO_5:=am (hp_);replace HB:=am ((by rw [hw];exact below_set (HB.out) GB11.out:Below w.heap.size w w35));clear hg hw hp_) | ((with_reducible refine gate_builtin (b:=.append) (xs:=#[.tmp 53,.tmp 55]) rfl ?_);at_builtin;refine Kd.R_append (Kd.int .i64) (w0:=w) w.heap.size rfl (.tmp 53) (.tmp 55) 40 3 (.int .i64 0) 8 rfl Tryz.underlying40 info3 rfl d_c o_m u6 x6_3 (rd (rd_L3 l0_2 (rd x6_2 x7_2)) x41_3) [.int .i64 (rd (rd_L3 l0_2 (rd x6_2 x7_2)) x41_3)] (fun _=>True) (fun _=>False) rfl rfl ?aP (fun _ hk=>hk.elim) ?aF ?aO ?aB ?aS ?aL ?_;(case aP=>exact rfl);(case aB=>exact aq0);(case aF=>exact aq51);(case aO=>exact aq16);(case aS=>exact aq52);(case aL=>have:=LMc33.out;omega);intro v121 w36 ho hb hg hat;rw [← Ny120.out] at ho;replace HO_3:=am (Kd.S_over' aq14 (Kd.R_typed aq16) d_c hg);replace HO_5:=am (Kd.R_over' aq22 (Kd.R_typed aq16) d_c hg);replace BK101:=am (bg BK101 hg (Kd.R_ne HO_6.out BK101.out d_c));replace HB:=am (hb);have HO122:=am (ho);clear HO_6 ho hb hg hat))
       repeat (go_quiet (first | ((with_reducible refine gate_store (t:=4) (p:=52) rfl ?_);(try (rw [drewN_self wr];generalize hq_:World.drewN wr _ = wr;have n0_:=am (Kd.S_at hq_ HO_3.out);have n1_:=am (Kd.R_at hq_ HO_5.out);have n2_:=am (Kd.R_at hq_ HO_6.out);have n3_:=am (blk_at hq_ BK101.out);have n4_:=am (below_at hq_ HB.out);clear hq_ HO_3 HO_5 HO_6 BK101 HB;have HO_3:=n0_;have HO_5:=n1_;have HO_6:=n2_;have BK101:=n3_;have HB:=n4_;clear n0_ n1_ n2_ n3_ n4_;(try (have HP34:=Kd.R_putg HO_5.out ((rd (rd_L3 l0_2 (rd x6_2 x7_2)) x41_3):Int) true))));refine store_event (t:=4) (p:=52) (v:=?vo_w35) (w1:=(wr.setCell ⟨go11,((rd (rd_L3 l0_2 (rd x6_2 x7_2)) x41_3):Int).toNat,none⟩ (.bool true))) ?hg ?ho ?hn ?hr ?_;(case ho=>rfl);(case hg=>rfl);(case hn=>rfl);(case hr=>exact aq12);intro w35 hw;have hg:wr.grownBy w35 (some go11):=(by rw [hw];exact HP34.2);have hp_:Kd.R Kd.bool 4 w35 w.heap.size (fun _=>True) (.slice (some ⟨go11,0,none⟩) x5_3.length co11) y119:=(by rw [hw,Ny119.out];exact HP34.1);clear HP34;replace HO_3:=am (Kd.S_after (v:=(.slice (some ⟨go11,0,none⟩) x5_3.length co11)) (v1:=(.slice (some ⟨go11,0,none⟩) x5_3.length co11)) (ok:=(fun _=>True)) aq54 hg (.inl rfl));replace HO_6:=am (Kd.R_over' (v:=(.slice (some ⟨go11,0,none⟩) x5_3.length co11)) aq16 (Kd.R_typed HO_5.out) d_c hg);replace BK101:=am (bg BK101 hg (Kd.R_ne HO_5.out BK101.out d_c));replace HO_5:=am (hp_);replace HB:=am ((by rw [hw];exact below_set (HB.out) GB11.out:Below w.heap.size w w35));clear hg hw hp_) | ((with_reducible refine gate_builtin (b:=.append) (xs:=#[.tmp 53,.tmp 55]) rfl ?_);at_builtin;refine Kd.R_append (Kd.int .i64) (w0:=w) w.heap.size rfl (.tmp 53) (.tmp 55) 40 3 (.int .i64 0) 8 rfl Tryz.underlying40 info3 rfl d_c o_m u6 x6_3 (rd (rd_L3 l0_2 (rd x6_2 x7_2)) x41_3) [.int .i64 (rd (rd_L3 l0_2 (rd x6_2 x7_2)) x41_3)] (fun _=>True) (fun _=>False) rfl rfl ?aP (fun _ hk=>hk.elim) ?aF ?aO ?aB ?aS ?aL ?_;(case aP=>exact rfl);(case aB=>exact aq0);(case aF=>exact aq51);(case aO=>exact aq16);(case aS=>exact aq52);(case aL=>have:=LMc33.out;omega);intro v121 w36 ho hb hg hat;rw [← Ny120.out] at ho;replace HO_3:=am (Kd.S_over' aq14 (Kd.R_typed aq16) d_c hg);replace HO_5:=am (Kd.R_over' aq22 (Kd.R_typed aq16) d_c hg);replace BK101:=am (bg BK101 hg (Kd.R_ne HO_6.out BK101.out d_c));replace HB:=am (hb);have HO122:=am (ho);clear HO_6 ho hb hg hat));try go_wp2_with (first | ((with_reducible refine gate_store (t:=4) (p:=52) rfl ?_);(try (rw [drewN_self wr];generalize hq_:World.drewN wr _ = wr;have n0_:=am (Kd.S_at hq_ HO_3.out);have n1_:=am (Kd.R_at hq_ HO_5.out);have n2_:=am (Kd.R_at hq_ HO_6.out);have n3_:=am (blk_at hq_ BK101.out);have n4_:=am (below_at hq_ HB.out);clear hq_ HO_3 HO_5 HO_6 BK101 HB;have HO_3:=n0_;have HO_5:=n1_;have HO_6:=n2_;have BK101:=n3_;have HB:=n4_;clear n0_ n1_ n2_ n3_ n4_;(try (have HP34:=Kd.R_putg HO_5.out ((rd (rd_L3 l0_2 (rd x6_2 x7_2)) x41_3):Int) true))));refine store_event (t:=4) (p:=52) (v:=?vo_w35) (w1:=(wr.setCell ⟨go11,((rd (rd_L3 l0_2 (rd x6_2 x7_2)) x41_3):Int).toNat,none⟩ (.bool true))) ?hg ?ho ?hn ?hr ?_;(case ho=>rfl);(case hg=>rfl);(case hn=>rfl);(case hr=>exact aq12);intro w35 hw;have hg:wr.grownBy w35 (some go11):=(by rw [hw];exact HP34.2);have hp_:Kd.R Kd.bool 4 w35 w.heap.size (fun _=>True) (.slice (some ⟨go11,0,none⟩) x5_3.length co11) y119:=(by rw [hw,Ny119.out];exact HP34.1);clear HP34;replace HO_3:=am (Kd.S_after (v:=(.slice (some ⟨go11,0,none⟩) x5_3.length co11)) (v1:=(.slice (some ⟨go11,0,none⟩) x5_3.length co11)) (ok:=(fun _=>True)) aq54 hg (.inl rfl));replace HO_6:=am (Kd.R_over' (v:=(.slice (some ⟨go11,0,none⟩) x5_3.length co11)) aq16 (Kd.R_typed HO_5.out) d_c hg);replace BK101:=am (bg BK101 hg (Kd.R_ne HO_5.out BK101.out d_c));replace HO_5:=am (hp_);replace HB:=am ((by rw [hw];exact below_set (HB.out) GB11.out:Below w.heap.size w w35));clear hg hw hp_) | ((with_reducible refine gate_builtin (b:=.append) (xs:=#[.tmp 53,.tmp 55]) rfl ?_);at_builtin;refine Kd.R_append (Kd.int .i64) (w0:=w) w.heap.size rfl (.tmp 53) (.tmp 55) 40 3 (.int .i64 0) 8 rfl Tryz.underlying40 info3 rfl d_c o_m u6 x6_3 (rd (rd_L3 l0_2 (rd x6_2 x7_2)) x41_3) [.int .i64 (rd (rd_L3 l0_2 (rd x6_2 x7_2)) x41_3)] (fun _=>True) (fun _=>False) rfl rfl ?aP (fun _ hk=>hk.elim) ?aF ?aO ?aB ?aS ?aL ?_;(case aP=>exact rfl);(case aB=>exact aq0);(case aF=>exact aq51);(case aO=>exact aq16);(case aS=>exact aq52);(case aL=>have:=LMc33.out;omega);intro v121 w36 ho hb hg hat;rw [← Ny120.out] at ho;replace HO_3:=am (Kd.S_over' aq14 (Kd.R_typed aq16) d_c hg);replace HO_5:=am (Kd.R_over' aq22 (Kd.R_typed aq16) d_c hg);replace BK101:=am (bg BK101 hg (Kd.R_ne HO_6.out BK101.out d_c));replace HB:=am (hb);have HO122:=am (ho);clear HO_6 ho hb hg hat)))
       (try simp only [← hl5_3])
       go_roundg k3
       case measure=>have:=HK1.out;have:=HK2.out;have:=HK3.out;omega
       case rel=>exact ⟨(y119),(y120),(wrap64 (x41_3 + 1)),aq6,H',⟨by have:=HK1.out;have:=HK2.out;have:=HK3.out;omega⟩,⟨by (try simp only [hl5_2]);(try simp only [hl5_3]);(with_reducible repeat (first | apply Kd.S_alloc | apply Kd.S_drewN | apply Kd.S_drew));exact Kd.S_mono HO_3.out (fun _ hk=>hk.2)⟩,⟨aq50⟩,⟨by (try simp only [hl5_2]);(try simp only [hl5_3]);(with_reducible repeat (first | apply Kd.R_alloc | apply Kd.R_drewN | apply Kd.R_drew));exact HO122.out⟩,⟨aq45⟩,⟨aq0⟩⟩
end Go.Proofs.YtldhkbiomingbaaGreatDoor.F

namespace Go.Proofs.YtldhkbiomingbaaGreatDoor.F
open Go.Proofs.YtldhkbiomingbaaGreatDoor
open Go.RowKit Go.YW.PrintWords Go.YW.PrintMore
section
variable {N:List (List Nat)} {n i:Nat} {TT:List ByteArray} {FF:List Int} {WW:List ByteArray}
theorem rdL3_casts (N:List (List Nat)) {j:Nat} (h:j < N.length):rd_L3 (N.map castsI) (j:Int) = castsI (N.getD j []):=by
 unfold rd_L3
 rw [Int.toNat_natCast,List.getD_eq_getElem?_getD,List.getElem?_map,List.getElem?_eq_getElem h,getD_lt h];rfl
theorem casts_app (l:List Nat) (a:Nat):castsI l ++ [(a:Int)] = castsI (l ++ [a]):=by
 unfold castsI
 rw [List.map_append];rfl
theorem reach_l2 (hn:n ≤ 300) {jx:Nat} (hw:Way N i jx) {l:List Nat} (hl:∀ a ∈ l,a < n ∧ a ∈ N.getD jx []) (hl4:l.length ≤ 4) {r:List (List Bool)} (out:List (List Bool)) (x7 x13:Int) (x14:Int) :
  ∀ (d j:Nat) (st:List Bool × List Nat),j + d = l.length → CloOk N n i st →
  (∀ st',st' = seeB (l.drop j) st → Ev (fun k=>impl_reach_reaching.l1 k out st'.1 (castsI st'.2) (wrap64 (x7 + 1)) x13 x14 TT FF (N.map castsI) WW) r) →
  Ev (fun k=>impl_reach_reaching.l2 k out st.1 (castsI st.2) x7 x13 x14 (castsI l) ((castsI l).length:Int) (j:Int) TT FF (N.map castsI) WW) r
 | 0,j,st,hj,o,h=>by
  rw [List.drop_of_length_le o_m] at h
  refine Ev.step (fun k=>?_) (h st rfl)
  rw [impl_reach_reaching.l2,if_neg (by rw [castsI_length];omega)]
 | d + 1,j,st,hj,o,h=>by
  have hlt:j < l.length:=by omega
  obtain ⟨a,ha⟩:∃ a,l[j]'hlt = a:=⟨_,rfl⟩
  have ham:=hl a (ha ▸ List.getElem_mem hlt)
  have hrd:rd (castsI l) (j:Int) = ((a:Nat):Int):=by rw [rd_casts hlt,getD_lt hlt,ha]
  have hdrop:=seeB_drop l st hlt
  rw [ha] at hdrop
  have f1:(j:Int) < ((castsI l).length:Int):=by rw [castsI_length];omega
  have f2:(0:Int) ≤ (j:Int):=by omega
  have f3:(0:Int) ≤ ((a:Nat):Int):=by omega
  have f4:((a:Nat):Int) < (st.1.length:Int):=by rw [o.len];have:=ham.1;omega
  have f5:(castsI st.2).length < 17592186044416:=by rw [castsI_length];have:=nodup_le o.dup o.low;omega
  have hW:wrap64 ((j:Int) + 1) = ((j + 1:Nat):Int):=w64t (n:=j + 1) o_m
  cases hb:st.1.getD a false with
  | true =>
   rw [if_pos hb] at hdrop
   have ih:=reach_l2 hn hw hl hl4 out x7 x13 x14 d (j + 1) st o_m o (fun st' e=>h st' (by rw [hdrop];exact e))
   refine Ev.step (fun k=>?_) ih
   rw [impl_reach_reaching.l2,if_pos f1,if_pos f2,if_pos f1,hrd,if_pos f3,if_pos f4,rd_bool,if_pos hb,hW]
  | false =>
   rw [if_neg (by rw [hb];exact Bool.false_ne_true)] at hdrop
   have o2:=o.one ham.1 (Way.step hw ham.2) hb
   have ih:=reach_l2 hn hw hl hl4 out x7 x13 x14 d (j + 1) (st.1.set a true,st.2 ++ [a]) o_m o2 (fun st' e=>h st' (by rw [hdrop];exact e))
   refine Ev.step (fun k=>?_) ih
   rw [impl_reach_reaching.l2,if_pos f1,if_pos f2,if_pos f1,hrd,if_pos f3,if_pos f4,rd_bool,if_neg (by rw [hb];exact Bool.false_ne_true),if_pos f5,hW,Int.toNat_natCast,casts_app]
theorem reach_l1 (hn:n ≤ 300) (hNl:N.length = n) (hN:∀ l ∈ N,l.length = 4 ∧ ∀ a ∈ l,a < n) {r:List (List Bool)} (out:List (List Bool)) (ho:out.length ≤ 300) (x13 x14:Int) :
  ∀ (f k0:Nat) (st:List Bool × List Nat),CloOk N n i st → k0 ≤ st.2.length → n + 1 ≤ f + k0 →
  Ev (fun k=>impl_reach_reaching.l0 k (out ++ [(cloB N f k0 st).1]) x13 (wrap64 (x14 + 1)) TT FF (N.map castsI) WW) r →
  Ev (fun k=>impl_reach_reaching.l1 k out st.1 (castsI st.2) (k0:Int) x13 x14 TT FF (N.map castsI) WW) r
 | 0,k0,st,o,hk,hf,h=>by
  have:=nodup_le o.dup o.low
  omega
 | f + 1,k0,st,o,hk,hf,h=>by
  have hle:=nodup_le o.dup o.low
  unfold cloB at h
  by_cases hlt:k0 < st.2.length
  rotate_left
  ·rw [if_neg hlt] at h
   have f1:¬ (k0:Int) < ((castsI st.2).length:Int):=by rw [castsI_length];omega
   refine Ev.step (fun k=>?_) h
   rw [impl_reach_reaching.l1,if_neg f1,if_pos o_m]
  rw [if_pos hlt] at h
  obtain ⟨jx,hjx⟩:∃ j,st.2.getD k0 0 = j:=⟨_,rfl⟩
  have hjm:jx ∈ st.2:=by rw [← hjx];exact getD_mem hlt
  have hjn:jx < n:=o.low _ hjm
  have hwj:=o.way _ hjm
  rw [hjx] at h
  have hrow:=getD_mem (l:=N) (d:=([]:List Nat)) (i:=jx) (by rw [hNl];exact hjn)
  obtain ⟨h4,hla⟩:=hN _ hrow
  have hl:∀ a ∈ N.getD jx [],a < n ∧ a ∈ N.getD jx []:=fun a ha=>⟨hla a ha,ha⟩
  obtain ⟨o3,hp3,_⟩:=seeB_ok hwj (N.getD jx []) hl st o
  have hW:wrap64 ((k0:Int) + 1) = ((k0 + 1:Nat):Int):=w64t (n:=k0 + 1) o_m
  have hrd:rd (castsI st.2) (k0:Int) = ((jx:Nat):Int):=by rw [rd_casts hlt,hjx]
  have f1:(k0:Int) < ((castsI st.2).length:Int):=by rw [castsI_length];omega
  have f2:(0:Int) ≤ (k0:Int):=by omega
  have f3:(0:Int) ≤ ((jx:Nat):Int):=by omega
  have f4:((jx:Nat):Int) < ((N.map castsI).length:Int):=by rw [List.length_map,hNl];omega
  have h2:=reach_l2 (TT:=TT) (FF:=FF) (WW:=WW) (r:=r) hn hwj hl o_m out (k0:Int) x13 x14 (N.getD jx []).length 0 st o_m o (fun st' e=>by
   rw [List.drop_zero] at e
   subst e
   rw [hW]
   exact reach_l1 hn hNl hN out ho x13 x14 f (k0 + 1) _ o3 (Nat.le_trans hlt hp3.length_le) o_m h)
  refine Ev.step (fun k=>?_) h2
  rw [impl_reach_reaching.l1,if_pos f1,if_pos f2,hrd,if_pos f3,if_pos f4,rdL3_casts N (by rw [hNl];exact hjn)];rfl
theorem reach_l0 (hn:n ≤ 300) (hNl:N.length = n) (hN:∀ l ∈ N,l.length = 4 ∧ ∀ a ∈ l,a < n) (hT:TT.length = n) :
  ∀ (d i:Nat),i + d = n → Ev (fun k=>impl_reach_reaching.l0 k ((List.range i).map (fromB N n)) (n:Int) (i:Int) TT FF (N.map castsI) WW) ((List.range n).map (fromB N n))
 | 0,i,hi=>by
  obtain rfl:i = n:=by omega
  exact Ev.step (fun k=>by rw [impl_reach_reaching.l0,if_neg o_m]) (Ev.now _)
 | d + 1,i,hi=>by
  have hlt:i < n:=by omega
  have ih:=reach_l0 hn hNl hN hT d (i + 1) o_m
  have hW:wrap64 ((i:Int) + 1) = ((i + 1:Nat):Int):=w64t (n:=i + 1) o_m
  have o:CloOk N n i ((List.replicate n false).set i true,[i]):=by
   refine ⟨by rw [List.length_set,List.length_replicate],by simp,fun j=>?_,fun j hj=>?_,fun j hj=>?_,by simp⟩
   ·rw [List.mem_singleton,List.getD_eq_getElem?_getD,List.getElem?_set]
    by_cases e:i = j
    ·subst e;simp [hlt]
    rw [if_neg e]
    refine ⟨fun h=>absurd h ?_,fun h=>absurd h.symm e⟩
    rw [List.getElem?_replicate];split <;> simp
   ·rw [List.mem_singleton.1 hj];exact hlt
   ·rw [List.mem_singleton.1 hj];exact .here _
  have e1:(List.range (i + 1)).map (fromB N n) = (List.range i).map (fromB N n) ++ [(cloB N (n + 1) 0 ((List.replicate n false).set i true,[i])).1]:=by
   rw [List.range_succ,List.map_append];rfl
  rw [e1] at ih
  have h1:=reach_l1 (TT:=TT) (FF:=FF) (WW:=WW) hn hNl hN ((List.range i).map (fromB N n)) (by rw [List.length_map,List.length_range];omega) (n:Int) (i:Int) (n + 1) 0 _ o (Nat.zero_le _) o_m (by rw [hW];exact ih)
  have f1:(i:Int) < (n:Int):=by omega
  have f2:(0:Int) ≤ ((n:Nat):Int):=by omega
  have f3:n ≤ 281474976710656:=by omega
  have f4:(0:Int) ≤ (i:Int):=by omega
  refine Ev.step (fun k=>?_) h1
  rw [impl_reach_reaching.l0,if_pos f1,hT,if_pos f2,Int.toNat_natCast,if_pos f3,Option.bind_some,if_pos f4,List.length_replicate,if_pos f1,Int.toNat_natCast];rfl
end
theorem reaching_ev {w h:Nat} {cs:List Int} {s:RS} (o:RS.Ok2 w h cs s.T.length s) (FF:List Int) (WW:List ByteArray):Ev (fun k=>impl_reach_reaching.f k (rT w h s) FF (s.N.map castsI) WW) ((List.range s.T.length).map (fromB s.N s.T.length)):=by
 unfold impl_reach_reaching.f
 have h0:=reach_l0 (TT:=rT w h s) (FF:=FF) (WW:=WW) o.ok.most o.lN o.next (rT_len w h s) s.T.length 0 (Nat.zero_add _)
 rw [rT_len]
 exact h0
end Go.Proofs.YtldhkbiomingbaaGreatDoor.F

namespace Go.Proofs.YtldhkbiomingbaaGreatDoor.F
open Go.Proofs.YtldhkbiomingbaaGreatDoor
open Go.RowKit Go.YW.PrintWords Go.YW.PrintLast Go.YW.PrintMore Go.Lib
attribute [local go_sem] max2_int min2_int
theorem at_rowK {α:Type} {d:Kd α} {t:TypeId} {w:World} {A:Option Addr} {n:Nat} {xs:List (List α)} (h:Kd.C (Kd.slice t d) w A n xs) (i:Nat) (h1:i < n) :
  ∃ b o A0 c0,A = some ⟨b,o,none⟩ ∧ w.cell? ⟨b,o + i,none⟩ = some (.slice A0 (xs.getD i []).length c0) ∧ (xs.getD i []).length ≤ c0 ∧ d.C w A0 (xs.getD i []).length (xs.getD i []):=by
 have one:∀ j:Nat,j < n → ∃ ad A0 c0,A = some ad ∧ w.cell? (ad.add j) = some (.slice A0 (xs.getD j []).length c0) ∧ (xs.getD j []).length ≤ c0 ∧ d.C w A0 (xs.getD j []).length (xs.getD j []):=fun j hj=>by
  obtain ⟨ad,c,e,_,hK,hc0⟩:=Kd.C_get h ([]:List α) (j:Int) o_m o_m
  have hc:∀ m u,c[m]? = some u → w.cell? (ad.add ((j:Int).toNat * 1 + m)) = some u:=hc0
  rw [Int.toNat_natCast] at hK hc
  obtain ⟨A0,c0,rfl,l0,g0⟩:=hK
  refine ⟨ad,A0,c0,e,?_,l0,g0⟩
  have:=hc 0 _ rfl
  rwa [show j * 1 + 0 = j by omega] at this
 obtain ⟨ad,_,_,e0,hq0,_⟩:=one 0 o_m
 obtain ⟨b,o,sp⟩:=ad
 have esp:sp = none:=by
  have:(⟨b,o,sp⟩:Addr).add 0 = ⟨b,o,sp⟩:=by unfold Addr.add;split <;> simp_all
  rw [this] at hq0
  exact spot_plain hq0
 subst esp
 obtain ⟨ad,A0,c0,e,hq,h3,h4⟩:=one i h1
 rw [e0] at e
 injection e with e
 subst e
 refine ⟨b,o,A0,c0,e0,?_,h3,h4⟩
 have e2:(⟨b,o,none⟩:Addr).add i = ⟨b,o + i,none⟩:=by unfold Addr.add;split <;> simp_all
 rw [e2] at hq
 exact hq
theorem last_pred {n:Nat} (all:List (List Bool)) (i:Nat) (hi:i < n) (hlen:∀ x,x < n → (all.getD x []).length = n) (b6 b8:Nat) (A:Option Addr) (c:Nat) (w:World)
  (h6:w.heap[b6]? = some (.cells #[.slice A n c] 100 (0,0))) (h8:w.heap[b8]? = some (.cells #[.int .i64 i] 3 (0,0))) (hC:Kd.C (Kd.slice 4 Kd.bool) w A n all) :
  PredAt Tryz.prog 78 #[.pointer (some ⟨b6,0,none⟩),.pointer (some ⟨b8,0,none⟩)] (fun x:Fin n=>Value.int .i64 (x.val:Int)) (fun x=>(all.getD x.val []).getD i false) w:=fun W x hb=>by
 obtain ⟨xv,hx⟩:=x
 have z6:W.cell? ⟨b6,0,none⟩ = some (.slice A n c):=(blk_cell (blk_below h6 hb) 0).trans rfl
 have z8:W.cell? ⟨b8,0,none⟩ = some (.int .i64 i):=(blk_cell (blk_below h8 hb) 0).trans rfl
 obtain ⟨b,o,A0,c0,rfl,hr,_,hC0⟩:=at_rowK (Kd.C_below hC hb) xv hx
 rw [hlen xv hx] at hr hC0
 obtain ⟨rw_,hrw⟩:∃ l,all.getD xv [] = l:=⟨_,rfl⟩
 have hll:=hlen xv hx
 rw [hrw] at hC0 hll
 obtain ⟨bk,ok,rfl,_,hcs⟩:=C_place hC0 o_m
 have hbo:W.cell? ⟨bk,ok + i,none⟩ = some (.bool (rw_.getD i false)):=hcs i _ (by rw [List.getElem?_eq_getElem o_m,List.getD_eq_getElem?_getD,List.getElem?_eq_getElem o_m];rfl)
 have hx1:((xv:Nat):Int) < (n:Int):=by omega
 have hi1:((i:Nat):Int) < (n:Int):=by omega
 show Calls Tryz.prog 78 #[.int .i64 (xv:Int),.pointer (some ⟨b6,0,none⟩),.pointer (some ⟨b8,0,none⟩)] W fun e w'=>e = .returned (.bool ((all.getD xv []).getD i false)) ∧ _
 rw [hrw]
 obtain ⟨bb,hbb⟩:∃ q,rw_.getD i false = q:=⟨_,rfl⟩
 rw [hbb] at hbo ⊢
 clear hC0 hcs hll hrw hbb h6 h8 hC hlen
 go_enter Tryz.func78,Tryz.ntmps78
 go_wp2
 refine start_ (n:=8) (S:=fun w'=>w'.cell? ⟨b6,0,none⟩ = some (.slice (some ⟨b,o,none⟩) n c) ∧ w'.cell? ⟨b,o + xv,none⟩ = some (.slice (some ⟨bk,ok,none⟩) n c0) ∧ w'.cell? ⟨b8,0,none⟩ = some (.int .i64 i) ∧ w'.cell? ⟨bk,ok + i,none⟩ = some (.bool bb)) (ds:=[]) (bm 8 0) k_r rfl rfl ⟨z6,hr,z8,hbo⟩ (fun hHeld=>?_)
 refine take_ (i:=0) (N:=some 5) (v:=?_) (a':=?_) (bm 8 1) rfl rfl k_r (fun _ _ _ h=>h) (Or.inl ⟨by rfl,?_⟩) hHeld ?_ ?_
 rotate_left
 ·rintro w' ⟨s_0,s_1,s_2,s_3⟩
  go_simp
  try with_reducible rfl
 rotate_left
 ·simp only [Act.put,ac_]
  rfl
 refine take_ (i:=1) (N:=some 6) (v:=?_) (a':=?_) (bm 8 3) rfl rfl k_r (fun _ _ _ h=>h) (Or.inl ⟨by rfl,?_⟩) hHeld ?_ ?_
 rotate_left
 ·rintro w' ⟨s_0,s_1,s_2,s_3⟩
  go_simp
  try with_reducible rfl
 rotate_left
 ·simp only [Act.put,ac_]
  rfl
 refine take_ (i:=2) (N:=some 7) (v:=?_) (a':=?_) (bm 8 7) rfl rfl k_r (fun _ _ _ h=>h) (Or.inl ⟨by rfl,?_⟩) hHeld ?_ ?_
 rotate_left
 ·rintro w' ⟨s_0,s_1,s_2,s_3⟩
  go_simp
  try with_reducible rfl
 rotate_left
 ·simp only [Act.put,ac_]
  rfl
 refine take_ (i:=3) (N:=some 8) (v:=?_) (a':=?_) (bm 8 15) rfl rfl k_r (fun _ _ _ h=>h) (Or.inl ⟨by rfl,?_⟩) hHeld ?_ ?_
 rotate_left
 ·rintro w' ⟨s_0,s_1,s_2,s_3⟩
  go_simp
  try with_reducible rfl
 rotate_left
 ·simp only [Act.put,ac_]
  rfl
 refine take_ (i:=4) (N:=some 9) (v:=?_) (a':=?_) (bm 8 31) rfl rfl k_r (fun _ _ _ h=>h) (Or.inl ⟨by rfl,?_⟩) hHeld ?_ ?_
 rotate_left
 ·rintro w' ⟨s_0,s_1,s_2,s_3⟩
  go_simp
  try with_reducible rfl
 rotate_left
 ·simp only [Act.put,ac_]
  rfl
 refine take_ (i:=5) (N:=some 10) (v:=?_) (a':=?_) (bm 8 63) rfl rfl k_r (fun _ _ _ h=>h) (Or.inl ⟨by rfl,?_⟩) hHeld ?_ ?_
 rotate_left
 ·rintro w' ⟨s_0,s_1,s_2,s_3⟩
  go_simp
  try with_reducible rfl
 rotate_left
 ·simp only [Act.put,ac_]
  rfl
 refine take_ (i:=6) (N:=some 11) (v:=?_) (a':=?_) (bm 8 127) rfl rfl k_r (fun _ _ _ h=>h) (Or.inl ⟨by rfl,?_⟩) hHeld ?_ ?_
 rotate_left
 ·rintro w' ⟨s_0,s_1,s_2,s_3⟩
  go_simp
  try with_reducible rfl
 rotate_left
 ·simp only [Act.put,ac_]
  rfl
 refine take_ (i:=7) (N:=some 4) (v:=?_) (a':=?_) (bm 8 255) rfl rfl k_r (fun _ _ _ h=>h) (Or.inl ⟨by rfl,?_⟩) hHeld ?_ ?_
 rotate_left
 ·rintro w' ⟨s_0,s_1,s_2,s_3⟩
  go_simp
  try with_reducible rfl
 rotate_left
 ·simp only [Act.put,ac_]
  rfl
 refine done_ k_r ?_
 go_wp2
 go_ret
 exact ⟨rfl,⟨1,rfl⟩⟩
theorem any_again {s:RS} {i:Nat} {l:List Nat} (hl:∀ a ∈ l,a < s.T.length) (zs:List (Fin s.T.length)) (hz:zs.map Fin.val = l) :
  zs.any (fun x=>(((List.range s.T.length).map (fromB s.N s.T.length)).getD x.val []).getD i false) = againL s i l:=by
 unfold againL
 rw [← hz,List.any_map]
 congr 1
 funext x
 show (((List.range s.T.length).map (fromB s.N s.T.length)).getD x.val []).getD i false = (fromB s.N s.T.length x.val).getD i false
 congr 1
 rw [List.getD_eq_getElem?_getD,List.getElem?_map,List.getElem?_range x.isLt];rfl
theorem again_calls {s:RS} {i b6 b8:Nat} {A A0:Option Addr} {c c0:Nat} {l:List Nat} {AL:List (List Bool)} {bb:Bool} {w:World} (hi:i < s.T.length) (hl:∀ a ∈ l,a < s.T.length) (h4:l.length = 4) (hA:(List.range s.T.length).map (fromB s.N s.T.length) = AL) (hb:againL s i l = bb)
  (h6:w.heap[b6]? = some (.cells #[.slice A s.T.length c] 100 (0,0))) (h8:w.heap[b8]? = some (.cells #[.int .i64 i] 3 (0,0))) (hC:Kd.C (Kd.slice 4 Kd.bool) w A s.T.length AL) (hL:Kd.C (Kd.int .i64) w A0 4 (castsI l)) :
  Calls Tryz.prog 59 #[.slice A0 4 c0,.func (.func 78) #[] #[.pointer (some ⟨b6,0,none⟩),.pointer (some ⟨b8,0,none⟩)]] w fun e w'=>e = .returned (.bool bb) ∧ Below w.heap.size w w':=by
 letI:Inhabited (Fin s.T.length):=⟨⟨i,hi⟩⟩
 obtain ⟨zs,hz⟩:∃ zs:List (Fin s.T.length),zs.map Fin.val = l:=⟨l.pmap (fun a h=>⟨a,h⟩) hl,by rw [List.map_pmap];exact (List.pmap_eq_map (p:=fun a=>a < s.T.length) (f:=fun a:Nat=>a) ..).trans (List.map_id' l)⟩
 have hlz:zs.length = 4:=by rw [← h4,← hz,List.length_map]
 have hlen:∀ x,x < s.T.length → (AL.getD x []).length = s.T.length:=fun x hx=>by
  rw [← hA,List.getD_eq_getElem?_getD,List.getElem?_map,List.getElem?_range hx];exact fromB_len _ _ _
 obtain ⟨bk,o,rfl,hbk,hcells⟩:=C_place hL o_m
 refine (Tryz.slices_ContainsFunc (α:=Fin s.T.length) (fun x:Fin s.T.length=>Value.int .i64 (x.val:Int)) (fun x=>(AL.getD x.val []).getD i false) 78 _ (enters_of Tryz.func78 k_r rfl) bk o 4 c0 zs _ (last_pred AL i hi hlen b6 b8 A c w h6 h8 hC) o_m o_m ?_).mono ?_
 ·intro j hj
  refine hcells j _ ?_
  unfold castsI
  rw [← hz,List.getElem?_map,List.getElem?_map,List.getElem?_eq_getElem hj,getElem!_pos zs j hj];rfl
 ·rintro e w' ⟨he,q,rfl⟩
  refine ⟨?_,pw_below_drewN (Below.refl _ _) q⟩
  rw [he,List.take_of_length_le o_m,← hb,← any_again hl zs hz,hA]
def impl_LastingTrays.f (t:ByteArray):Option (List ByteArray × Bool):=if t.size < 4294967281 then some (lastA t) else none
theorem impl_LastingTrays.calls (a0:ByteArray) (r1:List ByteArray) (r2:Bool) (w:World) (h:impl_LastingTrays.f a0 = some (r1,r2)) :
  Calls Tryz.prog 40 #[.string a0] w fun e w'=>∃ v0_:Value,e = .returned (.tuple #[v0_,.bool r2]) ∧ Kd.R Kd.string 9 w' w.heap.size (fun _=>True) v0_ r1 ∧ Below w.heap.size w w':=by
 unfold impl_LastingTrays.f at h
 by_cases hsz:a0.size < 4294967281
 case neg=>rw [if_neg hsz] at h;cases h
 rw [if_pos hsz] at h
 have HR:=am (Option.some.inj h)
 clear h
 cases hs:srch a0 with
 | none =>
  have HC:=am (reachOf_none hsz hs)
  obtain ⟨rfl,rfl⟩:[] = r1 ∧ false = r2:=by have h:=HR.out;unfold lastA at h;rw [hs] at h;exact Prod.mk.inj h
  clear hs HR hsz
  go_enter Tryz.func40,Tryz.ntmps40
  go_wp2_with (first
   | (go_at_call 74;refine (impl_reachOf.calls a0 _ _ _ _ _ _ HC.out).mono ?_;rintro e w1 ⟨v0,v1,v2,v3,rfl,ho0,ho1,ho2,ho3,hb1⟩;obtain ⟨A0,c0,rfl⟩:=Kd.R_slice ho0;obtain ⟨A1,c1,rfl⟩:=Kd.R_slice ho1;obtain ⟨A2,c2,rfl⟩:=Kd.S_slice ho2;obtain ⟨A3,c3,rfl⟩:=Kd.R_slice ho3;have HB1:=am hb1;clear ho0 ho1 ho2 ho3 hb1)
   | (refine bx 4 #[.slice none 0 0,.slice none 0 0,.slice none 0 0,.slice none 0 0] 59 ?_;intro b4 hg4 w2 hbox2 hb2;obtain ⟨y0,y1,y2,y3,f0,f1,f2,f3⟩:=blk4_ hbox2;have X2:=am hbox2;have HB2:=am hb2;have G4:=am hg4;clear hg4 hbox2 hb2))
  go_ret2
  exact ⟨_,rfl,Kd.R_nil _ _ _ _ _,below_set4 (below_step HB1.out HB2.out) (by rw [G4.out];exact HB1.out.size) _ _ _ _⟩
 | some q =>
  obtain ⟨gw,gh,s⟩:=q
  obtain ⟨cs,_,_,_,_,o2⟩:=srch_some hs
  have HC:=am (reachOf_some hsz hs)
  have HO2:=am o2
  obtain ⟨rfl,rfl⟩:sortB (lastT gw gh s s.T.length) = r1 ∧ true = r2:=by have h:=HR.out;unfold lastA at h;rw [hs] at h;exact Prod.mk.inj h
  obtain ⟨K,hK⟩:=reaching_ev (w:=gw) (h:=gh) o2 (castsI s.F) (rW s)
  have HK:=am (hK K (Nat.le_refl _))
  clear hs o2 HR hsz hK
  obtain ⟨TT,hTT⟩:∃ x,rT gw gh s = x:=⟨_,rfl⟩
  obtain ⟨FF,hFF⟩:∃ x,castsI s.F = x:=⟨_,rfl⟩
  obtain ⟨WW,hWW⟩:∃ x,rW s = x:=⟨_,rfl⟩
  obtain ⟨NN,hNN⟩:∃ x,s.N.map castsI = x:=⟨_,rfl⟩
  obtain ⟨AL,hAL⟩:∃ x,(List.range s.T.length).map (fromB s.N s.T.length) = x:=⟨_,rfl⟩
  rw [hTT,hFF,hWW,hNN] at HC HK
  rw [hAL] at HK
  have HTT:=am hTT
  have HNN:=am hNN
  have HALL:=am hAL
  have HLT:=am (show TT.length = s.T.length by rw [← hTT,rT_len])
  have HLN:=am (show NN.length = s.T.length by rw [← hNN,List.length_map,HO2.out.lN])
  have HLA:=am (show AL.length = s.T.length by rw [← hAL,List.length_map,List.length_range])
  clear hTT hFF hWW hNN hAL
  go_enter Tryz.func40,Tryz.ntmps40
  go_wp2_with (first
   | (go_at_call 74;refine (impl_reachOf.calls a0 _ _ _ _ _ _ HC.out).mono ?_;rintro e w1 ⟨v0,v1,v2,v3,rfl,ho0,ho1,ho2,ho3,hb1⟩;obtain ⟨A0,c0,rfl⟩:=Kd.R_slice ho0;obtain ⟨A1,c1,rfl⟩:=Kd.R_slice ho1;obtain ⟨A2,c2,rfl⟩:=Kd.S_slice ho2;obtain ⟨A3,c3,rfl⟩:=Kd.R_slice ho3;have HO0:=am (R_true ho0);have HO1:=am ho1;have HP2:=am (Kd.S_mono (ok':=fun _=>True) ho2 (fun _ _=>trivial));have HO3:=am (R_true ho3);have HB1:=am hb1;clear ho0 ho1 ho2 ho3 hb1)
   | (refine bx 4 #[.slice none 0 0,.slice none 0 0,.slice none 0 0,.slice none 0 0] 59 ?_;intro b4 hg4 w2 hbox2 hb2;obtain ⟨y0,y1,y2,y3,f0,f1,f2,f3⟩:=blk4_ hbox2;have X2:=am hbox2;have HB2:=am hb2;have G4:=am hg4;clear hg4 hbox2 hb2)
   | ((with_reducible refine gate_dst (N:=17) rfl ?_);obtain ⟨w3,hw3⟩:∃ w3,set4 w2 b4 (.slice A0 TT.length c0) (.slice A1 FF.length c1) (.slice A2 NN.length c2) (.slice A3 WW.length c3) = w3:=⟨_,rfl⟩;unfold set4 at hw3;rw [hw3];have HW3:=am (show set4 w2 b4 (.slice A0 TT.length c0) (.slice A1 FF.length c1) (.slice A2 NN.length c2) (.slice A3 WW.length c3) = w3 by unfold set4;exact hw3);clear hw3 y0 y1 y2 y3 f0 f1 f2 f3;have HKP:=am (fun k (hk:k < w1.heap.size)=>by rw [← HW3.out,heap_set4 _ _ _ _ _ _ (by rw [G4.out];omega),HB2.out.block k hk]:∀ k,k < w1.heap.size → w3.heap[k]? = w1.heap[k]?);have HQ0:=am (Kd.R_step HO0.out (fun k _ hk=>HKP.out k hk));have HQ1:=am (Kd.R_step HO1.out (fun k _ hk=>HKP.out k hk));have HQ2:=am (Kd.S_step HP2.out (fun k _ hk=>HKP.out k hk));have HQ3:=am (Kd.R_step HO3.out (fun k _ hk=>HKP.out k hk));have hx3:=blk_set4 X2.out (.slice A0 TT.length c0) (.slice A1 FF.length c1) (.slice A2 NN.length c2) (.slice A3 WW.length c3);rw [HW3.out] at hx3;have X3:=am hx3;obtain ⟨y0,y1,y2,y3,f0,f1,f2,f3⟩:=blk4_ hx3;have HG4:=am (show w.heap.size ≤ b4 by rw [G4.out];exact HB1.out.size);have HB3:=am (show Below w.heap.size w w3 by rw [← HW3.out];exact below_set4 (below_step HB1.out HB2.out) HG4.out _ _ _ _);clear hx3)
   | (go_at_call 77;refine (impl_reach_reaching.calls K _ _ TT _ _ FF _ _ NN _ _ WW AL _ (Kd.R_reads' HQ0.out).2.2 (Kd.R_reads' HQ0.out).2.1 (Kd.R_reads' HQ1.out).2.2 (Kd.R_reads' HQ1.out).2.1 (Kd.S_reads' HQ2.out).2.2 (Kd.S_reads' HQ2.out).2.1 (Kd.R_reads' HQ3.out).2.2 (Kd.R_reads' HQ3.out).2.1 HK.out).mono ?_;rintro e w4 ⟨v4,rfl,ho4,hb4⟩;obtain ⟨A4,c4,rfl⟩:=Kd.S_slice ho4;have HC4:=am (Kd.S_reads' ho4).2.2;have HB4:=am (below_step HB3.out hb4);have X4:=am (blk_below X3.out hb4);have HT4:=am (Kd.C_below (Kd.R_reads' HQ0.out).2.2 hb4);have HN4:=am (Kd.C_below (Kd.S_reads' HQ2.out).2.2 hb4);clear ho4 hb4 y0 y1 y2 y3 f0 f1 f2 f3)
   | ((with_reducible refine gate_dst (N:=19) rfl ?_);refine Kd.R_lit Kd.string _ 9 ?hg (N:=19) ?hd (xs:=([]:List ByteArray)) (inner:=[]) (ok:=fun _=>True) (okp:=fun _=>True) ?hr ?hp (fun _ hk=>hk) trivial (Below.refl _ _) (Nat.le_refl _) (by simp) ?_;(case hd=>rfl);(case hg=>rfl);(case hr=>first | (go_simp;done) | (go_simp;rfl));(case hp=>exact (Reps.none _ _));intro v5 w5 ho5 hb5 hg5 hn5;obtain ⟨A5,c5,rfl⟩:=Kd.R_slice ho5;have HO5:=am ho5;have X5:=am (blk_below X4.out hb5);have HB5:=am (below_step HB4.out hb5);have HB45:=am hb5;clear ho5 hb5 hg5 hn5)
   | (refine bx 6 #[.slice none 0 0] 100 ?_;intro b6 hg6 w6 hbox6 hb6;have y0:w6.cell? ⟨b6,0,none⟩ = some (.slice none 0 0):=(blk_cell hbox6 0).trans rfl;have f0:=blk_frozen hbox6 0;have X6:=am hbox6;have G6:=am hg6;have HB6:=am hb6;clear hg6 hbox6 hb6)
   | ((with_reducible refine gate_dst (N:=20) rfl ?_);obtain ⟨w7,hw7⟩:∃ W,w6.setCell ⟨b6,0,none⟩ (.slice A4 AL.length c4) = W:=⟨_,rfl⟩;rw [hw7];have hb7:=HB6.out.setCell (p:=⟨b6,0,none⟩) (show w5.heap.size ≤ b6 by rw [G6.out];exact Nat.le_refl _) (.slice A4 AL.length c4);have hx7:=blk_set X6.out 0 (.slice A4 AL.length c4);rw [hw7] at hb7 hx7;have X7:=am (blk_below X5.out hb7);have Y7:=am (hx7.trans (by rfl:_ = some (Obj.cells #[.slice A4 AL.length c4] 100 (0,0))));have HO7:=am (Kd.R_below HO5.out hb7);have HB47:=am (below_step HB45.out hb7);clear y0 f0 hx7 hb7 hw7;have z0:w7.cell? ⟨b4,0,none⟩ = some (.slice A0 TT.length c0):=(blk_cell X7.out 0).trans rfl))
  rw [HLA.out] at Y7 HC4
  go_loopw [7,23] (fun v7 v23 wr=>∃ i:Nat,i ≤ s.T.length ∧ v23 = .int .i64 i ∧ Aside0 (Kd.R Kd.string 9 wr w4.heap.size (fun _=>True) v7 (lastT gw gh s i)) ∧ Aside0 (Below w4.heap.size w4 wr) ∧ Aside0 (wr.heap[b6]? = some (Obj.cells #[.slice A4 s.T.length c4] 100 (0,0)))) (fun _ v23 _=>s.T.length - (intOf v23).toNat)
  case atStart=>exact ⟨0,Nat.zero_le _,rfl,HO7,HB47,Y7⟩
  case round =>
   obtain ⟨i,hi,rfl,HS,HQ,HY⟩:=hrel
   obtain ⟨wo,rfl⟩:∃ W,W = wr:=⟨_,rfl⟩
   by_cases hlt:i < s.T.length
   rotate_left
   ·have hge:¬ (i:Int) < (TT.length:Int):=by rw [HLT.out];omega
    obtain rfl:i = s.T.length:=by omega
    obtain ⟨A6,c6,rfl⟩:=Kd.R_slice HS.out
    have HBQ:=am (below_step HB4.out HQ.out)
    have HML:=am (show (lastT gw gh s s.T.length).length < 4000000000 by have:=lastT_len gw gh s s.T.length;have:=HO2.out.ok.most;omega)
    clear hi
    go_wp2_with (first
     | (go_at_call 75;refine (sort_string_calls HS.out HML.out).mono ?_;rintro e w10 ⟨rfl,ho10,hb10,hs10,hk10⟩;have HO10:=am (Kd.R_lower ho10 HB4.out.size);have HB10:=am (hb10 _ HBQ.out HB4.out.size);clear ho10 hb10 hs10 hk10))
    go_ret2
    exact ⟨_,rfl,HO10.out,HB10.out⟩
   have hltI:(i:Int) < (TT.length:Int):=by rw [HLT.out];omega
   have hltN:(i:Int) < (NN.length:Int):=by rw [HLN.out];omega
   have hnl:s.N.getD i [] ∈ s.N:=getD_mem (by rw [HO2.out.lN];exact hlt)
   obtain ⟨hn4,hnk⟩:=HO2.out.next _ hnl
   have HL:=am hlt
   have hw1:IntKind.i64.wrap ((i:Int) + 1) = ((i + 1:Nat):Int):=by rw [IntKind.wrap_i64];have:=HO2.out.ok.most;omega
   obtain ⟨tx,htx⟩:∃ x,textB (gw,gh,s.T.getD i []) = x:=⟨_,rfl⟩
   have HTK:=am (lastT_succ gw gh s i)
   rw [htx] at HTK
   obtain ⟨TX,hTX⟩:∃ x,lastT gw gh s i = x:=⟨_,rfl⟩
   have HAL:=am (show (TX.length + 1) * 16 ≤ 140737488355328 by rw [← hTX];have:=lastT_len gw gh s i;have:=HO2.out.ok.most;omega)
   rw [hTX] at HS HTK
   obtain ⟨bT,oT,rfl,hbT,hcT⟩:=C_place HT4.out o_m
   have z1:wo.cell? ⟨bT,oT + i,none⟩ = some (.string tx):=(HQ.out.cell (p:=⟨bT,oT + i,none⟩) hbT).trans (hcT i tx (by rw [← htx,← HTT.out];unfold rT;rw [List.getElem?_map,List.getElem?_eq_getElem hlt,getD_lt hlt];rfl))
   obtain ⟨bN,oN,An,cn,rfl,hzN,_,hCn⟩:=at_rowK HN4.out i o_m
   have hNe:NN.getD i [] = castsI (s.N.getD i []):=by rw [← HNN.out,List.getD_eq_getElem?_getD,List.getElem?_map,List.getElem?_eq_getElem (by rw [HO2.out.lN];exact hlt),getD_lt (by rw [HO2.out.lN];exact hlt)];rfl
   obtain ⟨l,hl⟩:∃ l,s.N.getD i [] = l:=⟨_,rfl⟩
   rw [hl] at hn4 hnk HTK hNe
   rw [hNe,castsI_length,hn4] at hzN hCn
   have ZN:=am hzN
   have HCN:=am hCn
   have HNL:=am hn4
   have HNK:=am hnk
   obtain ⟨A6,c6,rfl⟩:=Kd.R_slice HS.out
   clear hlt hi htx hTX hl hnl hn4 hnk hzN hCn hcT hbT hNe
   cases hb:againL s i l with
   | true =>
    have HTK2:=am (show lastT gw gh s (i + 1) = TX ++ [tx] by rw [HTK.out,if_pos hb])
    go_wp2_with (first
     | (refine bx 8 #[.int .i64 0] 3 ?_;intro b8 hg8 w8 hbox8 hb8;have y0:w8.cell? ⟨b8,0,none⟩ = some (.int .i64 0):=(blk_cell hbox8 0).trans rfl;have f0:=blk_frozen hbox8 0;have X8:=am hbox8;have G8:=am hg8;have HB8:=am hb8;clear hg8 hbox8 hb8)
     | ((with_reducible refine gate_dst (N:=28) rfl ?_);obtain ⟨w9,hw9⟩:∃ W,w8.setCell ⟨b8,0,none⟩ (.int .i64 (i:Int)) = W:=⟨_,rfl⟩;rw [hw9];have hb9:=HB8.out.setCell (p:=⟨b8,0,none⟩) (show wo.heap.size ≤ b8 by rw [G8.out];exact Nat.le_refl _) (.int .i64 (i:Int));have hx9:=blk_set X8.out 0 (.int .i64 (i:Int));rw [hw9] at hb9 hx9;have X9:=am (hx9.trans (by rfl:_ = some (Obj.cells #[.int .i64 (i:Int)] 3 (0,0))));have HQ9:=am (below_step HQ.out hb9);have HY9:=am (blk_below HY.out hb9);have HS9:=am (Kd.R_below HS.out hb9);clear y0 f0 z1 hb9 hx9 hw9;have z4:w9.cell? ⟨b4,2,none⟩ = some (.slice (some ⟨bN,oN,none⟩) NN.length c2):=(blk_cell (blk_below X4.out HQ9.out) 2).trans rfl;have z5:w9.cell? ⟨bN,oN + i,none⟩ = some (.slice An 4 cn):=(HQ9.out.cell (p:=⟨bN,oN + i,none⟩) (World.block_lt_of_cell? w4 _ ZN.out)).trans ZN.out;have z8:w9.cell? ⟨b8,0,none⟩ = some (.int .i64 (i:Int)):=(blk_cell X9.out 0).trans rfl)
     | (go_at_call 59;refine (again_calls HL.out HNK.out HNL.out HALL.out hb HY9.out X9.out (Kd.C_below HC4.out HQ9.out) (Kd.C_below HCN.out HQ9.out)).mono ?_;rintro e w10 ⟨rfl,hb10⟩;have HQ10:=am (below_step HQ9.out hb10);have HS10:=am (Kd.R_below HS9.out hb10);have HY10:=am (blk_below HY9.out hb10);clear hb10)
     | ((with_reducible refine gate_builtin (b:=.append) (xs:=#[.tmp 35,.tmp 37]) rfl ?_);at_builtin;refine Kd.R_append Kd.string (w0:=w4) w4.heap.size rfl (.tmp 35) (.tmp 37) 35 9 (.string ByteArray.empty) 16 rfl Tryz.underlying35 info9 rfl d_c o_m (.slice A6 TX.length c6) TX tx [.string tx] (fun _=>True) (fun _=>False) rfl rfl ?aP (fun _ hk=>hk.elim) ?aF ?aO ?aB ?aS ?aL ?_;(case aP=>exact rfl);(case aB=>exact HQ10.out);(case aF=>exact (fun _ _=>trivial));(case aO=>exact HS10.out);(case aS=>exact HQ10.out.size);(case aL=>exact HAL.out);intro v11 w11 ho11 hb11 hg11 hat11;have HO11:=am ho11;have HQ11:=am hb11;have HY11:=am (blk_grown HY10.out hg11 (Kd.R_ne HS10.out HY10.out d_c));clear ho11 hb11 hg11 hat11))
    go_roundw
    case rel=>exact ⟨i + 1,HL.out,by first | rfl | simp,⟨by rw [HTK2.out];exact HO11.out⟩,HQ11,HY11⟩
    case measure=>have:=HL.out;simp [intOf];omega
   | false =>
    have HTK2:=am (show lastT gw gh s (i + 1) = TX by rw [HTK.out,if_neg (by rw [hb];exact Bool.false_ne_true)])
    go_wp2_with (first
     | (refine bx 8 #[.int .i64 0] 3 ?_;intro b8 hg8 w8 hbox8 hb8;have y0:w8.cell? ⟨b8,0,none⟩ = some (.int .i64 0):=(blk_cell hbox8 0).trans rfl;have f0:=blk_frozen hbox8 0;have X8:=am hbox8;have G8:=am hg8;have HB8:=am hb8;clear hg8 hbox8 hb8)
     | ((with_reducible refine gate_dst (N:=28) rfl ?_);obtain ⟨w9,hw9⟩:∃ W,w8.setCell ⟨b8,0,none⟩ (.int .i64 (i:Int)) = W:=⟨_,rfl⟩;rw [hw9];have hb9:=HB8.out.setCell (p:=⟨b8,0,none⟩) (show wo.heap.size ≤ b8 by rw [G8.out];exact Nat.le_refl _) (.int .i64 (i:Int));have hx9:=blk_set X8.out 0 (.int .i64 (i:Int));rw [hw9] at hb9 hx9;have X9:=am (hx9.trans (by rfl:_ = some (Obj.cells #[.int .i64 (i:Int)] 3 (0,0))));have HQ9:=am (below_step HQ.out hb9);have HY9:=am (blk_below HY.out hb9);have HS9:=am (Kd.R_below HS.out hb9);clear y0 f0 z1 hb9 hx9 hw9;have z4:w9.cell? ⟨b4,2,none⟩ = some (.slice (some ⟨bN,oN,none⟩) NN.length c2):=(blk_cell (blk_below X4.out HQ9.out) 2).trans rfl;have z5:w9.cell? ⟨bN,oN + i,none⟩ = some (.slice An 4 cn):=(HQ9.out.cell (p:=⟨bN,oN + i,none⟩) (World.block_lt_of_cell? w4 _ ZN.out)).trans ZN.out;have z8:w9.cell? ⟨b8,0,none⟩ = some (.int .i64 (i:Int)):=(blk_cell X9.out 0).trans rfl)
     | (go_at_call 59;refine (again_calls HL.out HNK.out HNL.out HALL.out hb HY9.out X9.out (Kd.C_below HC4.out HQ9.out) (Kd.C_below HCN.out HQ9.out)).mono ?_;rintro e w10 ⟨rfl,hb10⟩;have HQ10:=am (below_step HQ9.out hb10);have HS10:=am (Kd.R_below HS9.out hb10);have HY10:=am (blk_below HY9.out hb10);clear hb10))
    go_roundw
    case rel=>exact ⟨i + 1,HL.out,by first | rfl | simp,⟨by rw [HTK2.out];exact HS10.out⟩,HQ10,HY10⟩
    case measure=>have:=HL.out;simp [intOf];omega
end Go.Proofs.YtldhkbiomingbaaGreatDoor.F

namespace Go.Proofs.YtldhkbiomingbaaGreatDoor.F
open Go.Proofs.YtldhkbiomingbaaGreatDoor
open Go.RowKit Go.YW.PrintWords Go.YW.PrintLast Go.YW.PrintMore
attribute [local go_sem] max2_int min2_int max_two min_two max_three min_three max_four min_four
def laws_eqStringS.l0:Nat → List ByteArray → List ByteArray → Int → Option (Bool)
 | 0,_,_,_=>none
 | k + 1,x0,x1,x5=>if x5 < (x0.length:Int) then (if 0 ≤ x5 then (if x5 < (x1.length:Int) then (if (rdOf ByteArray.empty x0 x5).toList = (rdOf ByteArray.empty x1 x5).toList then (laws_eqStringS.l0 k x0 x1 (wrap64 (x5 + 1))) else (some false)) else (none)) else (none)) else (some true)
def laws_eqStringS.f (k:Nat) (l0:List ByteArray) (l1:List ByteArray):Option (Bool):=if (l0.length:Int) = (l1.length:Int) then (laws_eqStringS.l0 k l0 l1 0) else (some false)
theorem laws_eqStringS.mono_l:∀ k,(∀ y0 y1 y2,LeO (laws_eqStringS.l0 k y0 y1 y2) (laws_eqStringS.l0 (k + 1) y0 y1 y2))
 | 0=>fun _ _ _ r h=>by simp [laws_eqStringS.l0] at h
 | k + 1=>by
  have ih0:=laws_eqStringS.mono_l k
  ·intro y0 y1 y2
   unfold laws_eqStringS.l0
   exact mo
theorem laws_eqStringS.mono:∀ a0 a1 k,LeO (laws_eqStringS.f k a0 a1) (laws_eqStringS.f (k + 1) a0 a1):=by
 intro a0 a1 k
 have ih0:=laws_eqStringS.mono_l k
 unfold laws_eqStringS.f
 exact mo
theorem laws_eqStringS.calls (k:Nat) (A0:Option Addr) (c0:Nat) (l0:List ByteArray) (A1:Option Addr) (c1:Nat) (l1:List ByteArray) (r:Bool) (w:World) (hr0:Kd.C Kd.string w A0 l0.length l0) (hc0:l0.length ≤ c0) (hr1:Kd.C Kd.string w A1 l1.length l1) (hc1:l1.length ≤ c1) (h:laws_eqStringS.f k l0 l1 = some r) :
  Calls Tryz.prog 26 #[.slice A0 l0.length c0,.slice A1 l1.length c1] w fun e w'=>e = .returned (.bool r) ∧ Drawn0 w w':=by
 have HR0:=am hr0
 have HC0:=am hc0
 clear hr0 hc0
 have HR1:=am hr1
 have HC1:=am hc1
 clear hr1 hc1
 have H:(if (l0.length:Int) = (l1.length:Int) then (laws_eqStringS.l0 k l0 l1 0) else (some false)) = some r:=h
 clear h
 by_cases c3:(l0.length:Int) = (l1.length:Int)
 rotate_left
 ·rw [if_neg c3] at H
  have c3b0:=beq_eq_false_iff_ne.mpr c3
  have c3b1:=bne_iff_ne.mpr c3
  have c3b2:(l0.length == l1.length) = false:=by first | simpa using c3 | (simp at c3 ⊢;omega)
  obtain rfl:=Option.some.inj H
  go_enter Tryz.func26,Tryz.ntmps26
  go_wp2
  repeat (go_quiet (fail);try go_wp2)
  go_ret
  exact ⟨aq6,aq17⟩
 rw [if_pos c3] at H
 have c3b0:=beq_iff_eq.mpr c3
 have c3b1:=bne_eq_false_iff_eq.mpr c3
 have c3b2:(l0.length == l1.length) = true:=by first | simpa using c3 | (simp at c3 ⊢;omega)
 clear c3
 have H':=am H
 clear H
 go_enter Tryz.func26,Tryz.ntmps26
 go_wp2
 repeat (go_quiet (fail);try go_wp2)
 go_loopg [5] k (fun kq v5 w'=>∃ (x5_1:Int),v5 = .int .i64 x5_1 ∧ Aside0 (laws_eqStringS.l0 kq l0 l1 x5_1 = some r) ∧ Aside0 (kq ≤ k) ∧ Drawn0 w w')
 case atStart=>exact ⟨(0),aq6,H',⟨Nat.le_refl _⟩,aq17⟩
 case round =>
  clear H'
  try clear c1
  try clear c2
  try clear p2
  try clear c3
  try clear c3b0
  try clear c3b1
  try clear c3b2
  obtain ⟨x5_1,rfl,HA,HK1,⟨m1,rfl⟩⟩:=hrel
  cases gk with
  | zero=>exact absurd HA.out (by simp [laws_eqStringS.l0])
  | succ k1 =>
   have H:=HA.out
   clear HA
   simp only [laws_eqStringS.l0] at H
   by_cases c4:x5_1 < (l0.length:Int)
   rotate_left
   ·rw [if_neg c4] at H
    have c4b0:=decide_eq_false c4
    clear c4
    obtain rfl:=Option.some.inj H
    go_wp2
    repeat (go_quiet (fail);try go_wp2)
    go_ret
    exact ⟨aq6,aq17⟩
   rw [if_pos c4] at H
   have c4b0:=decide_eq_true c4
   clear c4
   replace H:=gd H
   obtain ⟨c5,H⟩:=H
   have c5b0:=decide_eq_true c5
   clear c5
   replace H:=gd H
   obtain ⟨c6,H⟩:=H
   have c6b0:=decide_eq_true c6
   clear c6
   by_cases c7:(rdOf ByteArray.empty l0 x5_1).toList = (rdOf ByteArray.empty l1 x5_1).toList
   rotate_left
   ·rw [if_neg c7] at H
    have c7b0:=beq_eq_false_iff_ne.mpr c7
    have c7b1:=bne_iff_ne.mpr c7
    obtain rfl:=Option.some.inj H
    have p101:0 ≤ (x5_1:Int):=of_decide_eq_true aq4
    have q101:x5_1 < (l0.length:Int):=of_decide_eq_true aq4
    obtain ⟨ad101,e101,hx101_0⟩:=Kd.at_string HR0.out x5_1 p101 q101
    cases e101
    replace p101:=eq_true p101
    replace q101:=eq_true q101
    have p102:0 ≤ (x5_1:Int):=of_decide_eq_true aq4
    have q102:x5_1 < (l1.length:Int):=of_decide_eq_true aq4
    obtain ⟨ad102,e102,hx102_0⟩:=Kd.at_string HR1.out x5_1 p102 q102
    cases e102
    replace p102:=eq_true p102
    replace q102:=eq_true q102
    go_wp2
    repeat (go_quiet (fail);try go_wp2)
    go_ret
    exact ⟨aq6,aq17⟩
   rw [if_pos c7] at H
   have c7b0:=beq_iff_eq.mpr c7
   have c7b1:=bne_eq_false_iff_eq.mpr c7
   clear c7
   have H':=am H
   clear H
   have p101:0 ≤ (x5_1:Int):=of_decide_eq_true aq4
   have q101:x5_1 < (l0.length:Int):=of_decide_eq_true aq4
   obtain ⟨ad101,e101,hx101_0⟩:=Kd.at_string HR0.out x5_1 p101 q101
   cases e101
   replace p101:=eq_true p101
   replace q101:=eq_true q101
   have p102:0 ≤ (x5_1:Int):=of_decide_eq_true aq4
   have q102:x5_1 < (l1.length:Int):=of_decide_eq_true aq4
   obtain ⟨ad102,e102,hx102_0⟩:=Kd.at_string HR1.out x5_1 p102 q102
   cases e102
   replace p102:=eq_true p102
   replace q102:=eq_true q102
   go_wp2
   repeat (go_quiet (fail);try go_wp2)
   go_roundg k1
   case measure=>have:=HK1.out;omega
   case rel=>exact ⟨(wrap64 (x5_1 + 1)),aq6,H',⟨aq63⟩,aq17⟩
def laws_markText.l0:Nat → Int → ByteArray → Option (ByteArray)
 | 0,_,_=>none
 | k + 1,x0,x3=>if x0 > 0 then ((some (([(wrap64 (48 + (Int.tmod x0 10))) % 256]:List Int):List Int)).bind fun y101=>(if (strOfNums y101).size + x3.size ≤ 9223372036854775807 then (laws_markText.l0 k (wrap64 (Int.tdiv x0 10)) ((strOfNums y101) ++ x3)) else (none))) else (if 1 + x3.size ≤ 9223372036854775807 then (some ((⟨#[109]⟩:ByteArray) ++ x3)) else (none))
def laws_markText.f (k:Nat) (a0:Int):Option (ByteArray):=if a0 ≤ 0 then (some (⟨#[109,48]⟩:ByteArray)) else (laws_markText.l0 k a0 (⟨#[]⟩:ByteArray))
theorem laws_markText.mono_l:∀ k,(∀ y0 y1,LeO (laws_markText.l0 k y0 y1) (laws_markText.l0 (k + 1) y0 y1))
 | 0=>fun _ _ r h=>by simp [laws_markText.l0] at h
 | k + 1=>by
  have ih0:=laws_markText.mono_l k
  ·intro y0 y1
   unfold laws_markText.l0
   exact mo
theorem laws_markText.mono:∀ a0 k,LeO (laws_markText.f k a0) (laws_markText.f (k + 1) a0):=by
 intro a0 k
 have ih0:=laws_markText.mono_l k
 unfold laws_markText.f
 exact mo
theorem laws_markText.calls (k:Nat) (a0:Int) (r:ByteArray) (w:World) (h:laws_markText.f k a0 = some r) :
  Calls Tryz.prog 62 #[.int .i64 a0] w fun e w'=>e = .returned (.string r) ∧ Below w.heap.size w w':=by
 have HB:=am (Below.refl w.heap.size w)
 have H:(if a0 ≤ 0 then (some (⟨#[109,48]⟩:ByteArray)) else (laws_markText.l0 k a0 (⟨#[]⟩:ByteArray))) = some r:=h
 clear h
 by_cases c2:a0 ≤ 0
 ·rw [if_pos c2] at H
  have c2b0:=decide_eq_true c2
  clear c2
  obtain rfl:=Option.some.inj H
  go_enter Tryz.func62,Tryz.ntmps62
  go_wp2
  go_ret
  exact ⟨aq8,aq1⟩
 rw [if_neg c2] at H
 have c2b0:=decide_eq_false c2
 clear c2
 have H':=am H
 clear H
 go_enter Tryz.func62,Tryz.ntmps62
 go_wp2
 go_loopg [0,3] k (fun kq v0 v3 w'=>∃ (x0_1:Int) (x3_1:ByteArray),v0 = .int .i64 x0_1 ∧ v3 = .string x3_1 ∧ Aside0 (laws_markText.l0 kq x0_1 x3_1 = some r) ∧ Aside0 (kq ≤ k) ∧ Aside0 (Below w.heap.size w w'))
 case atStart=>exact ⟨(a0),((⟨#[]⟩:ByteArray)),aq6,aq6,H',⟨Nat.le_refl _⟩,⟨aq1⟩⟩
 case round =>
  clear H'
  try clear c2
  try clear c2b0
  try clear p2
  obtain ⟨x0_1,x3_1,rfl,rfl,HA,HK1,HB⟩:=hrel
  cases gk with
  | zero=>exact absurd HA.out (by simp [laws_markText.l0])
  | succ k1 =>
   have H:=HA.out
   clear HA
   simp only [laws_markText.l0] at H
   by_cases c3:x0_1 > 0
   rotate_left
   ·rw [if_neg c3] at H
    have c3b0:=decide_eq_false c3
    clear c3
    replace H:=gd H
    obtain ⟨c8,H⟩:=H
    have c8b0:=eq_true c8
    have c8b1:=decide_eq_true c8
    try have c8b2:(9223372036854775807 < 1 + x3_1.size) = False:=eq_false (Nat.not_lt.2 c8)
    obtain rfl:=Option.some.inj H
    go_wp2
    go_ret
    exact ⟨aq8,aq1⟩
   rw [if_pos c3] at H
   have c3b0:=decide_eq_true c3
   clear c3
   obtain ⟨y101,hy_⟩:∃ y_:List Int,y_ = (([(wrap64 (48 + (Int.tmod x0_1 10))) % 256]:List Int)):=⟨_,rfl⟩
   replace H:(if (strOfNums y101).size + x3_1.size ≤ 9223372036854775807 then (laws_markText.l0 k1 (wrap64 (Int.tdiv x0_1 10)) ((strOfNums y101) ++ x3_1)) else (none)) = some r:=aq3
   have Ny101:=am hy_
   clear hy_
   replace H:=gd H
   obtain ⟨c4,H⟩:=H
   have c4b0:=eq_true c4
   have c4b1:=decide_eq_true c4
   try have c4b2:(9223372036854775807 < (strOfNums y101).size + x3_1.size) = False:=eq_false (Nat.not_lt.2 c4)
   have H':=am H
   clear H
   go_wp2_with (first | ((with_reducible refine gate_dst (N:=12) rfl ?_);refine Kd.R_lit (Kd.int .u8) _ 5 ?hg (N:=12) ?hd (xs:=([(wrap64 (48 + (Int.tmod x0_1 10))) % 256]:List Int)) (inner:=[.int .u8 ((wrap64 (48 + (Int.tmod x0_1 10))) % 256)]) (ok:=fun _=>True) (okp:=fun _=>True) ?hr ?hp (fun _ hk=>hk) trivial (Below.refl _ _) (Nat.le_refl _) (by simp) ?_;(case hd=>rfl);(case hg=>rfl);(case hr=>exact aq12);(case hp=>exact (Reps.one (show Kd.M (Kd.int .u8) _ _ _ ((wrap64 (48 + (Int.tmod x0_1 10))) % 256) [.int .u8 ((wrap64 (48 + (Int.tmod x0_1 10))) % 256)] from rfl) (Reps.none _ _)));intro v102 w5 ho6 hb hg_ hnew_;clear hg_ hnew_;(first | rw [← Ny101.out] at ho6 | (simp only [Int.reduceToNat] at ho6;rw [← Ny101.out] at ho6));have HO103:=am (Kd.R_lower ho6 (below_size aq1));replace HB:=am (below_step aq1 hb);clear hb ho6;(first | have hcv7:=own_string (P:=Tryz.prog) Tryz.underlying63 Tryz.underlying5 Tryz.underlying9 (Kd.own_of_R HO103.out) | have hcv7:=(show ∀ {A:Option Addr} {n c:Nat} {xs:List Int} {ok:Nat → Prop} {W:World} {b:Nat},Kd.V (Kd.int .u8) 5 W b ok (.slice A n c) xs → (convert 63 9 (.slice A n c)).run Tryz.prog W = .ok (.string (strOfNums xs)) W from fun h=>by obtain ⟨rfl,_,hC⟩:=Kd.V_reads' h;exact Kd.C_string Tryz.underlying63 Tryz.underlying5 Tryz.underlying9 hC) HO103.out)))
   go_roundg k1
   case measure=>have:=HK1.out;omega
   case rel=>exact ⟨(wrap64 (Int.tdiv x0_1 10)),((strOfNums y101) ++ x3_1),aq6,aq6,H',⟨aq63⟩,⟨aq1⟩⟩
def laws_markStringS.l0:Nat → List ByteArray → Int → Int → Option (Int × List ByteArray)
 | 0,_,_,_=>none
 | k + 1,x0,x1,x5=>if x5 < (x0.length:Int) then ((laws_markText.f k x1).bind fun t101=>(if 0 ≤ x5 then (laws_markStringS.l0 k (x0.set (x5:Int).toNat t101) (wrap64 (x1 + 1)) (wrap64 (x5 + 1))) else (none))) else (some (x1,x0))
def laws_markStringS.f (k:Nat) (l0:List ByteArray) (a1:Int):Option (Int × List ByteArray):=laws_markStringS.l0 k l0 a1 0
theorem laws_markStringS.mono_l:∀ k,(∀ y0 y1 y2,LeO (laws_markStringS.l0 k y0 y1 y2) (laws_markStringS.l0 (k + 1) y0 y1 y2))
 | 0=>fun _ _ _ r h=>by simp [laws_markStringS.l0] at h
 | k + 1=>by
  have ih0:=laws_markStringS.mono_l k
  ·intro y0 y1 y2
   unfold laws_markStringS.l0
   have im0:=@laws_markText.mono;exact mo
theorem laws_markStringS.mono:∀ a0 a1 k,LeO (laws_markStringS.f k a0 a1) (laws_markStringS.f (k + 1) a0 a1):=by
 intro a0 a1 k
 have ih0:=laws_markStringS.mono_l k
 unfold laws_markStringS.f
 have im0:=@laws_markText.mono;exact mo
theorem laws_markStringS.calls (k:Nat) (P0_:Nat → Prop) (u9000_:Value) (l0:List ByteArray) (a1:Int) (r1:Int) (r2:List ByteArray) (w0 w:World) (hB:Below w0.heap.size w0 w) (ho0:Kd.R Kd.string 9 w w0.heap.size P0_ u9000_ l0) (h:laws_markStringS.f k l0 a1 = some (r1,r2)) :
  Calls Tryz.prog 27 #[u9000_,.int .i64 a1] w fun e w'=>e = .returned (.int .i64 r1) ∧ Kd.R Kd.string 9 w' w0.heap.size (fun k_=>(P0_ k_ ∨ w.heap.size ≤ k_)) u9000_ r2 ∧ Below w0.heap.size w0 w' ∧ Kept w w' (fun k_=>P0_ k_):=by
 have HO0:=am (show Kd.R Kd.string 9 w w0.heap.size (fun k_=>(P0_ k_ ∨ w.heap.size ≤ k_)) u9000_ l0 from Kd.R_mono ho0 (fun k_ hk=>(.inl hk)))
 have HK:=am (Kept.refl w (fun k_=>P0_ k_))
 have HW0:=am hB.size
 have HB:=am hB
 clear hB
 have H:(laws_markStringS.l0 k l0 a1 0) = some (r1,r2):=h
 clear h
 have H':=am H
 clear H
 go_enter Tryz.func27,Tryz.ntmps27
 go_wp2
 go_loopg [1,5] k (fun kq v1 v5 w'=>∃ (x0_1:List ByteArray) (x1_1:Int) (x5_1:Int),v1 = .int .i64 x1_1 ∧ v5 = .int .i64 x5_1 ∧ Aside0 (laws_markStringS.l0 kq x0_1 x1_1 x5_1 = some (r1,r2)) ∧ Aside0 (kq ≤ k) ∧ Aside0 (Kd.R Kd.string 9 w' w0.heap.size (fun k_=>(P0_ k_ ∨ w.heap.size ≤ k_)) u9000_ x0_1) ∧ Aside0 (Kept w w' (fun k_=>P0_ k_)) ∧ Aside0 (Below w0.heap.size w0 w'))
 case atStart=>exact ⟨(l0),(a1),(0),aq6,aq6,H',⟨Nat.le_refl _⟩,⟨by (with_reducible repeat (first | apply Kd.R_alloc | apply Kd.R_drewN | apply Kd.R_drew));exact HO0.out⟩,⟨aq26⟩,⟨aq1⟩⟩
 case round =>
  clear H'
  try clear c2
  try clear p2
  obtain ⟨x0_1,x1_1,x5_1,rfl,rfl,HA,HK1,HO_0,HK,HB⟩:=hrel
  cases gk with
  | zero=>exact absurd HA.out (by simp [laws_markStringS.l0])
  | succ k1 =>
   have H:=HA.out
   clear HA
   simp only [laws_markStringS.l0] at H
   by_cases c3:x5_1 < (x0_1.length:Int)
   rotate_left
   ·rw [if_neg c3] at H
    have c3b0:=decide_eq_false c3
    clear c3
    simp only [Option.some.injEq,Prod.mk.injEq] at H
    obtain ⟨rfl,rfl⟩:=H
    obtain ⟨Ao11,co11,eo11⟩:=Kd.R_slice HO_0.out
    subst eo11
    go_wp2
    go_ret
    exact ⟨aq8,aq39,aq1,aq26⟩
   rw [if_pos c3] at H
   have c3b0:=decide_eq_true c3
   clear c3
   obtain ⟨t101,A4,H⟩:=bn H
   replace H:=gd H
   obtain ⟨c5,H⟩:=H
   have c5b0:=decide_eq_true c5
   clear c5
   obtain ⟨y102,hy_⟩:∃ y_:List ByteArray,y_ = (x0_1.set (x5_1:Int).toNat t101):=⟨_,rfl⟩
   replace H:(laws_markStringS.l0 k1 y102 (wrap64 (x1_1 + 1)) (wrap64 (x5_1 + 1))) = some (r1,r2):=aq3
   have Ny102:=am hy_
   clear hy_
   have H':=am H
   clear H
   obtain ⟨Ao7,co7,eo7⟩:=Kd.R_slice HO_0.out
   subst eo7
   go_wp2_with (first | ((with_reducible refine gate_callee (f:=62) rfl ?_);refine goesL_ (some 15) rfl rfl Tryz.func62 k_r rfl #[.int .i64 x1_1] rfl aq7 ?_;(with_reducible refine (laws_markText.calls k1 x1_1 t101 _ A4.out).mono ?_);rintro e w8 ⟨rfl,hb⟩;refine ⟨_,rfl,?_⟩;replace HO_0:=am (Kd.R_below aq39 hb);replace HK:=am (Kept.below (S:=(fun k_=>P0_ k_)) aq26 hb);replace HB:=am (below_step aq1 hb);(try clear hb);have p6:0 ≤ (x5_1:Int):=of_decide_eq_true aq4;have q6:(x5_1:Int) < ((x0_1.length:Int):Int):=of_decide_eq_true aq4;obtain ⟨go6,co6,eo6,gb6,gl6,cl6,HG6⟩:=Kd.R_form HO_0.out o_m;(first | cases eo6 | (injection eo6 with ea_ en_ ec_;(first | subst ea_ | (injection ea_ with ea_;subst ea_));subst ec_;clear en_));have GB6:=am gb6;have GG6:=am HG6;clear gb6 gl6 HG6;have HMgo6:=am (show (P0_ go6 ∨ w.heap.size ≤ go6) from (HO_0.out.1 _ rfl));obtain ⟨hx6_0,hf6_0⟩:=Kd.R_celln (⟨#[]⟩:ByteArray) HO_0.out (x5_1:Int) p6 q6;replace p6:=eq_true p6;replace q6:=eq_true q6;obtain ⟨hy9_,hz9_⟩:=Kd.R_celln (⟨#[]⟩:ByteArray) HO_0.out (x5_1:Int) (of_decide_eq_true aq4) (of_decide_eq_true aq4);have HP9:=Kd.R_putg HO_0.out (x5_1:Int) t101) | ((with_reducible refine gate_store (t:=9) (p:=16) rfl ?_);refine store_event (t:=9) (p:=16) (v:=?vo_w10) (w1:=(w8.setCell ⟨go6,(x5_1:Int).toNat,none⟩ (.string t101))) ?hg ?ho ?hn ?hr ?_;(case ho=>rfl);(case hg=>rfl);(case hn=>rfl);(case hr=>exact aq12);intro w10 hw;have hg:w8.grownBy w10 (some go6):=(by rw [hw];exact HP9.2);have hp_:Kd.R Kd.string 9 w10 w0.heap.size (fun k_=>(P0_ k_ ∨ w.heap.size ≤ k_)) (.slice (some ⟨go6,0,none⟩) x0_1.length co7) y102:=(by rw [hw,Ny102.out];exact HP9.1);clear HP9;replace HB:=am ((by rw [hw];exact below_set (HB.out) GB6.out:Below w0.heap.size w0 w10));replace HK:=am (Kept.of_grown (S:=(fun k_=>P0_ k_)) hg aq26 (fun k_ e_=>(HO_0.out.1 k_ e_)));replace HO_0:=am (hp_);clear hg hw hp_))
   go_roundg k1
   case measure=>have:=HK1.out;omega
   case rel=>exact ⟨(y102),(wrap64 (x1_1 + 1)),(wrap64 (x5_1 + 1)),aq6,aq6,H',⟨aq63⟩,⟨aq39⟩,⟨aq26⟩,⟨aq1⟩⟩
def laws_heldStringS.l0:Nat → List ByteArray → Int → Int → Option (Int)
 | 0,_,_,_=>none
 | k + 1,x0,x1,x5=>if x5 < (x0.length:Int) then (if 0 ≤ x5 then ((laws_markText.f k x1).bind fun t102=>(if (rdOf ByteArray.empty x0 x5).toList = t102.toList then (laws_heldStringS.l0 k x0 (wrap64 (x1 + 1)) (wrap64 (x5 + 1))) else (some (-1)))) else (none)) else (some x1)
def laws_heldStringS.f (k:Nat) (l0:List ByteArray) (a1:Int):Option (Int):=laws_heldStringS.l0 k l0 a1 0
theorem laws_heldStringS.mono_l:∀ k,(∀ y0 y1 y2,LeO (laws_heldStringS.l0 k y0 y1 y2) (laws_heldStringS.l0 (k + 1) y0 y1 y2))
 | 0=>fun _ _ _ r h=>by simp [laws_heldStringS.l0] at h
 | k + 1=>by
  have ih0:=laws_heldStringS.mono_l k
  ·intro y0 y1 y2
   unfold laws_heldStringS.l0
   have im0:=@laws_markText.mono;exact mo
theorem laws_heldStringS.mono:∀ a0 a1 k,LeO (laws_heldStringS.f k a0 a1) (laws_heldStringS.f (k + 1) a0 a1):=by
 intro a0 a1 k
 have ih0:=laws_heldStringS.mono_l k
 unfold laws_heldStringS.f
 have im0:=@laws_markText.mono;exact mo
theorem laws_heldStringS.calls (k:Nat) (A0:Option Addr) (c0:Nat) (l0:List ByteArray) (a1:Int) (r:Int) (w:World) (hr0:Kd.C Kd.string w A0 l0.length l0) (hc0:l0.length ≤ c0) (h:laws_heldStringS.f k l0 a1 = some r) :
  Calls Tryz.prog 28 #[.slice A0 l0.length c0,.int .i64 a1] w fun e w'=>e = .returned (.int .i64 r) ∧ Below w.heap.size w w':=by
 have HR0:=am hr0
 have HC0:=am hc0
 clear hr0 hc0
 have HB:=am (Below.refl w.heap.size w)
 have H:(laws_heldStringS.l0 k l0 a1 0) = some r:=h
 clear h
 have H':=am H
 clear H
 go_enter Tryz.func28,Tryz.ntmps28
 go_wp2
 go_loopg [1,5] k (fun kq v1 v5 w'=>∃ (x1_1:Int) (x5_1:Int),v1 = .int .i64 x1_1 ∧ v5 = .int .i64 x5_1 ∧ Aside0 (laws_heldStringS.l0 kq l0 x1_1 x5_1 = some r) ∧ Aside0 (kq ≤ k) ∧ Aside0 (Below w.heap.size w w'))
 case atStart=>exact ⟨(a1),(0),aq6,aq6,H',⟨Nat.le_refl _⟩,⟨aq1⟩⟩
 case round =>
  clear H'
  try clear c2
  try clear p2
  obtain ⟨x1_1,x5_1,rfl,rfl,HA,HK1,HB⟩:=hrel
  cases gk with
  | zero=>exact absurd HA.out (by simp [laws_heldStringS.l0])
  | succ k1 =>
   have H:=HA.out
   clear HA
   simp only [laws_heldStringS.l0] at H
   by_cases c3:x5_1 < (l0.length:Int)
   rotate_left
   ·rw [if_neg c3] at H
    have c3b0:=decide_eq_false c3
    clear c3
    obtain rfl:=Option.some.inj H
    go_wp2
    go_ret
    exact ⟨aq8,aq1⟩
   rw [if_pos c3] at H
   have c3b0:=decide_eq_true c3
   clear c3
   replace H:=gd H
   obtain ⟨c4,H⟩:=H
   have c4b0:=decide_eq_true c4
   clear c4
   obtain ⟨t102,A5,H⟩:=bn H
   by_cases c6:(rdOf ByteArray.empty l0 x5_1).toList = t102.toList
   rotate_left
   ·rw [if_neg c6] at H
    have c6b0:=beq_eq_false_iff_ne.mpr c6
    have c6b1:=bne_iff_ne.mpr c6
    obtain rfl:=Option.some.inj H
    try go_wp2
    replace HB:=am (below_drew1 HB.out)
    have p101:0 ≤ (x5_1:Int):=of_decide_eq_true aq4
    have q101:x5_1 < (l0.length:Int):=of_decide_eq_true aq4
    obtain ⟨ad101,e101,hx101_0⟩:=Kd.at_string HR0.out x5_1 p101 q101
    have hw101_0:=hx101_0
    cases e101
    try replace hx101_0:=(HB.out.cell (World.block_lt_of_cell? w _ hx101_0)).trans hx101_0
    replace p101:=eq_true p101
    replace q101:=eq_true q101
    refine start_ (n:=7) (S:=fun w'=>w'.cell? (ad101.add (x5_1).toNat) = some (.string (rdOf ByteArray.empty l0 x5_1))) (ds:=[]) (bm 7 0) k_r rfl rfl (((HB.out.cell (World.block_lt_of_cell? w _ hw101_0)).trans hw101_0)) (fun hHeld=>?_)
    generalize wr.drew = w9 at HB hx101_0 hHeld ⊢
    refine py0 (i:=0) (N:=some 12) (bm 7 1) ?_
    refine py0 (i:=1) (N:=some 13) (bm 7 3) ?_
    refine py0 (i:=2) (N:=some 14) (bm 7 7) ?_
    refine py0 (i:=4) (N:=some 16) (bm 7 23) ?_
    refine take_ (i:=3) (N:=some 15) (v:=?_) (a':=?_) (bm 7 31) rfl rfl k_r (fun _ _ _ h=>h) (Or.inl ⟨by rfl,?_⟩) hHeld ?_ ?_
    rotate_left
    ·intro w' s0
     go_simp
     with_reducible rfl
    rotate_left
    ·simp only [Act.put,ac_]
     rfl
    refine one_ (i:=5) (N:=some 17) (bm 7 63) rfl rfl k_r d_c (fun K hK=>?_)
    refine goes_ Tryz.func62 k_r rfl #[.int .i64 x1_1] (by rfl) rfl rfl aq7 ?_
    with_reducible refine (laws_markText.calls k1 x1_1 t102 _ A5.out).mono ?_
    rintro e w10 ⟨rfl,hb⟩
    refine ⟨_,rfl,?_⟩
    replace HB:=am (below_step aq1 hb)
    (try clear hb)
    refine hK.out _ _ (((HB.out.cell (World.block_lt_of_cell? w _ hw101_0)).trans hw101_0)) (fun hHeld=>?_)
    clear hK K
    refine nm (some 17) ?_
    refine py0 (i:=6) (N:=some 18) (bm 7 127) ?_
    refine done_ k_r ?_
    try go_wp2
    go_ret
    exact ⟨aq8,aq1⟩
   rw [if_pos c6] at H
   have c6b0:=beq_iff_eq.mpr c6
   have c6b1:=bne_eq_false_iff_eq.mpr c6
   clear c6
   have H':=am H
   clear H
   try go_wp2
   replace HB:=am (below_drew1 HB.out)
   have p101:0 ≤ (x5_1:Int):=of_decide_eq_true aq4
   have q101:x5_1 < (l0.length:Int):=of_decide_eq_true aq4
   obtain ⟨ad101,e101,hx101_0⟩:=Kd.at_string HR0.out x5_1 p101 q101
   have hw101_0:=hx101_0
   cases e101
   try replace hx101_0:=(HB.out.cell (World.block_lt_of_cell? w _ hx101_0)).trans hx101_0
   replace p101:=eq_true p101
   replace q101:=eq_true q101
   refine start_ (n:=7) (S:=fun w'=>w'.cell? (ad101.add (x5_1).toNat) = some (.string (rdOf ByteArray.empty l0 x5_1))) (ds:=[]) (bm 7 0) k_r rfl rfl (((HB.out.cell (World.block_lt_of_cell? w _ hw101_0)).trans hw101_0)) (fun hHeld=>?_)
   generalize wr.drew = w7 at HB hx101_0 hHeld ⊢
   refine py0 (i:=0) (N:=some 12) (bm 7 1) ?_
   refine py0 (i:=1) (N:=some 13) (bm 7 3) ?_
   refine py0 (i:=2) (N:=some 14) (bm 7 7) ?_
   refine py0 (i:=4) (N:=some 16) (bm 7 23) ?_
   refine take_ (i:=3) (N:=some 15) (v:=?_) (a':=?_) (bm 7 31) rfl rfl k_r (fun _ _ _ h=>h) (Or.inl ⟨by rfl,?_⟩) hHeld ?_ ?_
   rotate_left
   ·intro w' s0
    go_simp
    with_reducible rfl
   rotate_left
   ·simp only [Act.put,ac_]
    rfl
   refine one_ (i:=5) (N:=some 17) (bm 7 63) rfl rfl k_r d_c (fun K hK=>?_)
   refine goes_ Tryz.func62 k_r rfl #[.int .i64 x1_1] (by rfl) rfl rfl aq7 ?_
   with_reducible refine (laws_markText.calls k1 x1_1 t102 _ A5.out).mono ?_
   rintro e w8 ⟨rfl,hb⟩
   refine ⟨_,rfl,?_⟩
   replace HB:=am (below_step aq1 hb)
   (try clear hb)
   refine hK.out _ _ (((HB.out.cell (World.block_lt_of_cell? w _ hw101_0)).trans hw101_0)) (fun hHeld=>?_)
   clear hK K
   refine nm (some 17) ?_
   refine py0 (i:=6) (N:=some 18) (bm 7 127) ?_
   refine done_ k_r ?_
   try go_wp2
   go_roundg k1
   case measure=>have:=HK1.out;omega
   case rel=>exact ⟨(wrap64 (x1_1 + 1)),(wrap64 (x5_1 + 1)),aq6,aq6,H',⟨aq63⟩,⟨aq1⟩⟩
end Go.Proofs.YtldhkbiomingbaaGreatDoor.F

namespace Go.Proofs.YtldhkbiomingbaaGreatDoor.F
open Go.RowKit Go.Proofs.YtldhkbiomingbaaGreatDoor Go.YW.PrintWords Go.YW.PrintMore
theorem eqS_l0 (l:List ByteArray) (hl:l.length ≤ 1000):∀ (n i:Nat),i + n = l.length → Ev (fun k=>laws_eqStringS.l0 k l l (i:Int)) true
 | 0,i,hi=>Ev.step (fun k=>by rw [laws_eqStringS.l0,if_neg o_m]) (Ev.now _)
 | n + 1,i,hi=>by
  have HW:Aside0 (wrap64 ((i:Int) + 1) = ((i + 1:Nat):Int)):=⟨by rw [w64 o_m o_m];rfl⟩
  refine Ev.step (fun k=>?_) (eqS_l0 l hl n (i + 1) o_m)
  rw [laws_eqStringS.l0,if_pos o_m,if_pos o_m,if_pos o_m,if_pos rfl,HW.out]
theorem eqS_ev (l:List ByteArray) (hl:l.length ≤ 1000):Ev (fun k=>laws_eqStringS.f k l l) true :=
 Ev.congr (fun k=>by rw [laws_eqStringS.f,if_pos rfl];rfl) (eqS_l0 l hl l.length 0 o_m)
theorem markText_l0:∀ (d n:Nat) (acc:ByteArray),n < d → d < 100000 → acc.size + d < 1000000 → ∃ t,Ev (fun k=>laws_markText.l0 k (n:Int) acc) t
 | 0,n,acc,h,_,_=>absurd h (Nat.not_lt_zero _)
 | d + 1,n,acc,h,hd,ha=>by
  by_cases h0:n = 0
  ·subst h0
   exact ⟨_,Ev.step (fun k=>by rw [laws_markText.l0,if_neg d_c,if_pos o_m]) (Ev.now _)⟩
  have e1:Int.tdiv (n:Int) 10 = ((n / 10:Nat):Int):=rfl
  have hlt:n / 10 < d:=by omega
  have hsz:(strOfNums [(wrap64 (48 + (Int.tmod (n:Int) 10))) % 256]).size = 1:=rfl
  obtain ⟨t,ht⟩:=markText_l0 d (n / 10) (strOfNums [(wrap64 (48 + (Int.tmod (n:Int) 10))) % 256] ++ acc) hlt o_m (by rw [ByteArray.size_append,hsz];omega)
  have HW:Aside0 (wrap64 ((n / 10:Nat):Int) = ((n / 10:Nat):Int)):=⟨w64 o_m o_m⟩
  refine ⟨t,Ev.step (fun k=>?_) ht⟩
  rw [laws_markText.l0,if_pos o_m,Option.bind_some,if_pos (by rw [hsz];omega),e1,HW.out]
theorem markText_ex (n:Nat) (hn:n < 5000):∃ t,Ev (fun k=>laws_markText.f k (n:Int)) t:=by
 by_cases h0:n = 0
 ·subst h0;exact ⟨_,Ev.congr (fun k=>by rw [laws_markText.f,if_pos d_c]) (Ev.now _)⟩
 obtain ⟨t,ht⟩:=markText_l0 (n + 1) n (⟨#[]⟩:ByteArray) o_m o_m (by show 0 + (n + 1) < _;omega)
 exact ⟨t,Ev.congr (fun k=>by rw [laws_markText.f,if_neg o_m]) ht⟩
noncomputable def mkT (n:Nat):ByteArray:=if h:n < 5000 then Classical.choose (markText_ex n h) else ByteArray.empty
theorem mkT_ev {n:Nat} (hn:n < 5000):Ev (fun k=>laws_markText.f k (n:Int)) (mkT n):=by
 unfold mkT;rw [dif_pos hn];exact Classical.choose_spec (markText_ex n hn)
noncomputable def marksT (m n:Nat):List ByteArray:=(List.range n).map fun j=>mkT (m + j)
theorem marksT_length (m n:Nat):(marksT m n).length = n:=by simp [marksT]
theorem markS_l0 (l:List ByteArray) (m:Nat) (hl:l.length ≤ 1000) (hm:m ≤ 1000):∀ (n i:Nat),i + n = l.length →
  Ev (fun k=>laws_markStringS.l0 k (marksT m i ++ l.drop i) ((m + i:Nat):Int) (i:Int)) (((m + l.length:Nat):Int),marksT m l.length)
 | 0,i,hi=>by
  obtain rfl:i = l.length:=by omega
  rw [List.drop_eq_nil_of_le (Nat.le_refl _),List.append_nil]
  exact Ev.step (fun k=>by rw [laws_markStringS.l0,if_neg (by rw [marksT_length];omega)]) (Ev.now _)
 | n + 1,i,hi=>by
  have hil:i < l.length:=by omega
  have HW:Aside0 (wrap64 ((i:Int) + 1) = ((i + 1:Nat):Int)):=⟨by rw [w64 o_m o_m];rfl⟩
  have HM:Aside0 (wrap64 (((m + i:Nat):Int) + 1) = ((m + (i + 1):Nat):Int)):=⟨by rw [w64 o_m o_m];omega⟩
  have hset:(marksT m i ++ l.drop i).set i (mkT (m + i)) = marksT m (i + 1) ++ l.drop (i + 1):=by
   rw [List.set_append_right _ _ (by rw [marksT_length];exact Nat.le_refl _),marksT_length,Nat.sub_self,List.drop_eq_getElem_cons hil,List.set_cons_zero]
   unfold marksT
   rw [List.range_succ,List.map_append,List.append_assoc];rfl
  have ih:=markS_l0 l m hl hm n (i + 1) o_m
  refine Ev.step (f:=fun k=>(laws_markText.f k ((m + i:Nat):Int)).bind fun t=>laws_markStringS.l0 k ((marksT m i ++ l.drop i).set i t) ((m + (i + 1):Nat):Int) ((i + 1:Nat):Int)) (fun k=>?_) (Ev.bind (mkT_ev o_m) (by rw [hset];exact ih))
  rw [laws_markStringS.l0,if_pos (by rw [List.length_append,marksT_length,List.length_drop];omega),HW.out,HM.out]
  congr 1
theorem markS_ev (l:List ByteArray) (hl:l.length ≤ 1000):Ev (fun k=>laws_markStringS.f k l 1) (((1 + l.length:Nat):Int),marksT 1 l.length):=by
 have h0:=markS_l0 l 1 hl o_m l.length 0 o_m
 exact h0
theorem heldS_l0 (m n:Nat) (hn:n ≤ 1000) (hm:m ≤ 1000):∀ (d i:Nat),i + d = n → Ev (fun k=>laws_heldStringS.l0 k (marksT m n) ((m + i:Nat):Int) (i:Int)) ((m + n:Nat):Int)
 | 0,i,hi=>by
  obtain rfl:i = n:=by omega
  exact Ev.step (fun k=>by rw [laws_heldStringS.l0,if_neg (by rw [marksT_length];omega)]) (Ev.now _)
 | d + 1,i,hi=>by
  have HW:Aside0 (wrap64 ((i:Int) + 1) = ((i + 1:Nat):Int)):=⟨by rw [w64 o_m o_m];rfl⟩
  have HM:Aside0 (wrap64 (((m + i:Nat):Int) + 1) = ((m + (i + 1):Nat):Int)):=⟨by rw [w64 o_m o_m];omega⟩
  have hget:rdOf ByteArray.empty (marksT m n) (i:Int) = mkT (m + i):=by
   unfold rdOf marksT
   rw [Int.toNat_natCast,List.getD_eq_getElem?_getD,List.getElem?_map,List.getElem?_range o_m];rfl
  refine Ev.step (f:=fun k=>(laws_markText.f k ((m + i:Nat):Int)).bind fun t=>if (mkT (m + i)).toList = t.toList then laws_heldStringS.l0 k (marksT m n) ((m + (i + 1):Nat):Int) ((i + 1:Nat):Int) else some (-1)) (fun k=>?_) (Ev.bind (mkT_ev o_m) (Ev.congr (fun k=>if_pos rfl) (heldS_l0 m n hn hm d (i + 1) o_m)))
  rw [laws_heldStringS.l0,if_pos (by rw [marksT_length];omega),if_pos o_m,HW.out,HM.out,hget]
theorem heldS_ev (n:Nat) (hn:n ≤ 1000):Ev (fun k=>laws_heldStringS.f k (marksT 1 n) 1) ((1 + n:Nat):Int):=by
 have h0:=heldS_l0 1 n hn o_m n 0 o_m
 exact h0
end Go.Proofs.YtldhkbiomingbaaGreatDoor.F

namespace Go.Proofs.YtldhkbiomingbaaGreatDoor.F
open Go.Proofs.YtldhkbiomingbaaGreatDoor
open Go.RowKit Go.YW.PrintWords Go.YW.PrintLast Go.YW.PrintMore
attribute [local go_sem] max2_int min2_int max_two min_two max_three min_three max_four min_four
mutual
def laws_FnExactLastingTrays.j0:Nat → ByteArray → List ByteArray → Bool → List ByteArray → Bool → Option (Bool)
 | 0,_,_,_,_,_=>none
 | k + 1,x0,x3,x4,x5,x32=>if x32 = true then (some false) else ((laws_markStringS.f k x5 1).bind fun bt110=>((laws_heldStringS.f k bt110.2 1).bind fun t112=>(if t112 < 0 then (some false) else (if t112 = bt110.1 then ((impl_LastingTrays.f x0).bind fun bt113=>((laws_eqStringS.f k bt113.1 x3).bind fun t117=>(if t117 = true then (laws_FnExactLastingTrays.j1 k bt110.2 bt110.1 (bt113.2 != x4)) else (laws_FnExactLastingTrays.j1 k bt110.2 bt110.1 true)))) else (some false)))))
def laws_FnExactLastingTrays.j1:Nat → List ByteArray → Int → Bool → Option (Bool)
 | 0,_,_,_=>none
 | k + 1,x5,x7,x57=>if x57 = true then (some false) else ((laws_heldStringS.f k x5 1).bind fun t118=>(if t118 < 0 then (some false) else (if t118 = x7 then (some true) else (some false))))
end
def laws_FnExactLastingTrays.f (k:Nat) (a0:ByteArray):Option (Bool):=if (a0.size:Int) > 1048576 then (some true) else ((spec_LastingTrays.f a0).bind fun bt101=>((impl_LastingTrays.f a0).bind fun bt105=>((laws_eqStringS.f k bt105.1 bt101.1).bind fun t109=>(if t109 = true then (laws_FnExactLastingTrays.j0 k a0 bt101.1 bt101.2 bt105.1 (bt105.2 != bt101.2)) else (laws_FnExactLastingTrays.j0 k a0 bt101.1 bt101.2 bt105.1 true)))))
theorem laws_FnExactLastingTrays.mono_l:∀ k,(∀ y0 y1 y2 y3 y4,LeO (laws_FnExactLastingTrays.j0 k y0 y1 y2 y3 y4) (laws_FnExactLastingTrays.j0 (k + 1) y0 y1 y2 y3 y4)) ∧ (∀ y0 y1 y2,LeO (laws_FnExactLastingTrays.j1 k y0 y1 y2) (laws_FnExactLastingTrays.j1 (k + 1) y0 y1 y2))
 | 0=>⟨fun _ _ _ _ _ r h=>by simp [laws_FnExactLastingTrays.j0] at h,fun _ _ _ r h=>by simp [laws_FnExactLastingTrays.j1] at h⟩
 | k + 1=>by
  obtain ⟨ih0,ih1⟩:=laws_FnExactLastingTrays.mono_l k
  refine ⟨?_,?_⟩
  ·intro y0 y1 y2 y3 y4
   unfold laws_FnExactLastingTrays.j0
   have im0:=@laws_eqStringS.mono;have im1:=@laws_heldStringS.mono;have im2:=@laws_markStringS.mono;exact mo
  ·intro y0 y1 y2
   unfold laws_FnExactLastingTrays.j1
   have im0:=@laws_eqStringS.mono;have im1:=@laws_heldStringS.mono;have im2:=@laws_markStringS.mono;exact mo
theorem laws_FnExactLastingTrays.calls (k:Nat) (a0:ByteArray) (r:Bool) (w:World) (h:laws_FnExactLastingTrays.f k a0 = some r) :
  Calls Tryz.prog 11 #[.string a0] w fun e w'=>e = .returned (.bool r) ∧ Below w.heap.size w w':=by
 have HB:=am (Below.refl w.heap.size w)
 have H:(if (a0.size:Int) > 1048576 then (some true) else ((spec_LastingTrays.f a0).bind fun bt101=>((impl_LastingTrays.f a0).bind fun bt105=>((laws_eqStringS.f k bt105.1 bt101.1).bind fun t109=>(if t109 = true then (laws_FnExactLastingTrays.j0 k a0 bt101.1 bt101.2 bt105.1 (bt105.2 != bt101.2)) else (laws_FnExactLastingTrays.j0 k a0 bt101.1 bt101.2 bt105.1 true)))))) = some r:=h
 clear h
 by_cases c2:(a0.size:Int) > 1048576
 ·rw [if_pos c2] at H
  have c2b0:=decide_eq_true c2
  have c2b1:decide (1048576 < a0.size) = true:=decide_eq_true o_m
  clear c2
  obtain rfl:=Option.some.inj H
  go_enter Tryz.func11,Tryz.ntmps11
  go_wp2
  go_ret
  exact ⟨aq8,aq1⟩
 rw [if_neg c2] at H
 have c2b0:=decide_eq_false c2
 have c2b1:decide (1048576 < a0.size) = false:=decide_eq_false o_m
 clear c2
 replace H:=Option.bind_eq_some_iff.mp H
 obtain ⟨⟨t101,t102⟩,A30,H⟩:=H
 replace H:((impl_LastingTrays.f a0).bind fun bt105=>((laws_eqStringS.f k bt105.1 t101).bind fun t109=>(if t109 = true then (laws_FnExactLastingTrays.j0 k a0 t101 t102 bt105.1 (bt105.2 != t102)) else (laws_FnExactLastingTrays.j0 k a0 t101 t102 bt105.1 true)))) = some r:=H
 have A3:=am A30
 clear A30
 replace H:=Option.bind_eq_some_iff.mp H
 obtain ⟨⟨t105,t106⟩,A40,H⟩:=H
 replace H:((laws_eqStringS.f k t105 t101).bind fun t109=>(if t109 = true then (laws_FnExactLastingTrays.j0 k a0 t101 t102 t105 (t106 != t102)) else (laws_FnExactLastingTrays.j0 k a0 t101 t102 t105 true))) = some r:=H
 have A4:=am A40
 clear A40
 have HC5:=am H
 clear H
 go_enter Tryz.func11,Tryz.ntmps11
 go_upto_region 5 with (first | ((with_reducible refine gate_callee (f:=39) rfl ?_);refine goesL_ (some 16) rfl rfl Tryz.func39 k_r rfl #[.string a0] rfl aq7 ?_;(with_reducible refine (spec_LastingTrays.calls a0 t101 t102 _ A3.out).mono ?_);rintro e w6 ⟨v103,rfl,ho0,hb⟩;refine ⟨_,rfl,?_⟩;have HO104:=am (Kd.R_lower ho0 (below_size aq1));replace HB:=am (below_step aq1 hb);(try clear hb);(try clear ho0)) | ((with_reducible refine gate_callee (f:=40) rfl ?_);refine goesL_ (some 21) rfl rfl Tryz.func40 k_r rfl #[.string a0] rfl aq7 ?_;(with_reducible refine (impl_LastingTrays.calls a0 t105 t106 _ A4.out).mono ?_);rintro e w7 ⟨v107,rfl,ho0,hb⟩;refine ⟨_,rfl,?_⟩;have HO108:=am (Kd.R_lower (Kd.R_new' ho0 (Kd.R_lt (by (with_reducible repeat (first | apply Kd.R_alloc | apply Kd.R_drewN | apply Kd.R_drew));exact HO104.out))) (below_size aq1));replace HO104:=am (Kd.R_elder' (by (with_reducible repeat (first | apply Kd.R_alloc | apply Kd.R_drewN | apply Kd.R_drew));exact HO104.out) (Kd.R_base ho0) hb);replace HB:=am (below_step aq1 hb);(try clear hb);(try clear ho0)))
 (try simp only [Act.put,List.setIfInBounds_toArray,List.set_cons_zero,List.set_cons_succ])
 go_cut [32] (fun v32 wc=>∃ (kq:Nat) (x32_4:Bool),v32 = .bool x32_4 ∧ Aside0 (laws_FnExactLastingTrays.j0 kq a0 t101 t102 t105 x32_4 = some r) ∧ Aside0 (kq ≤ k) ∧ Aside0 (Kd.R Kd.string 9 wc w.heap.size (fun k_=>some k_ ≠ (v107:Value).ownBlock) v103 t101) ∧ Aside0 (Kd.R Kd.string 9 wc w.heap.size (fun k_=>some k_ ≠ (v103:Value).ownBlock) v107 t105) ∧ Aside0 (Below w.heap.size w wc))
 case first =>
  have H:=HC5.out
  clear HC5
  obtain ⟨t109,A8,H⟩:=bn H
  by_cases c9:t109 = true
  ·subst c9
   rw [if_pos rfl] at H
   have H':=am H
   clear H
   obtain ⟨Ao10,co10,eo10⟩:=Kd.R_slice HO108.out
   subst eo10
   obtain ⟨Ao11,co11,eo11⟩:=Kd.R_slice HO104.out
   subst eo11
   go_wp2_with (first | ((with_reducible refine gate_callee (f:=26) rfl ?_);refine goesL_ (some 26) rfl rfl Tryz.func26 k_r rfl #[.slice Ao10 t105.length co10,.slice Ao11 t101.length co11] rfl aq7 ?_;(with_reducible refine (laws_eqStringS.calls k _ _ t105 _ _ t101 true _ ?side1 ?side2 ?side3 ?side4 A8.out).mono ?_);(case side1=>exact aq70);(case side2=>exact (Kd.R_reads' HO108.out).2.1);(case side3=>exact aq71);(case side4=>exact (Kd.R_reads' HO104.out).2.1);rintro e w' ⟨rfl,⟨nd,rfl⟩⟩;refine ⟨_,rfl,?_⟩))
   go_meet
   case rel=>exact ⟨_,((t106 != t102)),aq6,H',⟨by first | omega | exact Nat.le_refl _⟩,⟨aq86⟩,⟨aq85⟩,⟨aq1⟩⟩
  replace c9:=Bool.eq_false_iff.mpr c9
  subst c9
  rw [if_neg Bool.false_ne_true] at H
  have H':=am H
  clear H
  obtain ⟨Ao12,co12,eo12⟩:=Kd.R_slice HO108.out
  subst eo12
  obtain ⟨Ao13,co13,eo13⟩:=Kd.R_slice HO104.out
  subst eo13
  go_wp2_with (first | ((with_reducible refine gate_callee (f:=26) rfl ?_);refine goesL_ (some 26) rfl rfl Tryz.func26 k_r rfl #[.slice Ao12 t105.length co12,.slice Ao13 t101.length co13] rfl aq7 ?_;(with_reducible refine (laws_eqStringS.calls k _ _ t105 _ _ t101 false _ ?side1 ?side2 ?side3 ?side4 A8.out).mono ?_);(case side1=>exact aq70);(case side2=>exact (Kd.R_reads' HO108.out).2.1);(case side3=>exact aq71);(case side4=>exact (Kd.R_reads' HO104.out).2.1);rintro e w' ⟨rfl,⟨nd,rfl⟩⟩;refine ⟨_,rfl,?_⟩))
  go_meet
  case rel=>exact ⟨_,(true),aq6,H',⟨by first | omega | exact Nat.le_refl _⟩,⟨aq86⟩,⟨aq85⟩,⟨aq1⟩⟩
 case rest =>
  clear HC5
  try clear c1
  try clear c2
  try clear c2b0
  try clear c2b1
  try clear p2
  try clear c3
  try clear c4
  try clear c9
  try clear c11
  obtain ⟨kq,x32_4,rfl,HA,HJ4,HO_3,HO_5,HB⟩:=hcut
  cases kq with
  | zero=>exact absurd HA.out (by simp [laws_FnExactLastingTrays.j0])
  | succ kj4 =>
   have H:=HA.out
   clear HA
   simp only [laws_FnExactLastingTrays.j0] at H
   by_cases c14:x32_4 = true
   ·subst c14
    rw [if_pos rfl] at H
    obtain rfl:=Option.some.inj H
    go_wp2
    go_ret
    exact ⟨aq8,aq1⟩
   replace c14:=Bool.eq_false_iff.mpr c14
   subst c14
   rw [if_neg Bool.false_ne_true] at H
   replace H:=Option.bind_eq_some_iff.mp H
   obtain ⟨⟨t110,t111⟩,A150,H⟩:=H
   replace H:((laws_heldStringS.f kj4 t111 1).bind fun t112=>(if t112 < 0 then (some false) else (if t112 = t110 then ((impl_LastingTrays.f a0).bind fun bt113=>((laws_eqStringS.f kj4 bt113.1 t101).bind fun t117=>(if t117 = true then (laws_FnExactLastingTrays.j1 kj4 t111 t110 (bt113.2 != t102)) else (laws_FnExactLastingTrays.j1 kj4 t111 t110 true)))) else (some false)))) = some r:=H
   have A15:=am A150
   clear A150
   obtain ⟨t112,A16,H⟩:=bn H
   by_cases c17:t112 < 0
   ·rw [if_pos c17] at H
    have c17b0:=decide_eq_true c17
    clear c17
    obtain rfl:=Option.some.inj H
    obtain ⟨Ao18,co18,eo18⟩:=Kd.R_slice HO_5.out
    subst eo18
    go_wp2_with (first | ((with_reducible refine gate_callee (f:=27) rfl ?_);refine goesL_ (some 35) rfl rfl Tryz.func27 k_r rfl #[.slice Ao18 t105.length co18,.int .i64 1] rfl aq7 ?_;(with_reducible refine (laws_markStringS.calls kj4 (fun k_=>some k_ = (.slice Ao18 t105.length co18:Value).ownBlock) (.slice Ao18 t105.length co18) t105 1 t110 t111 w _ ?side1 ?side2 A15.out).mono ?_);(case side1=>exact aq1);(case side2=>exact Kd.R_tight rfl HO_5.out);rintro e w19 ⟨rfl,hy0,hb,hkp⟩;refine ⟨_,rfl,?_⟩;replace HO_3:=am (Kd.R_mono (ok':=fun k_=>some k_ ≠ (.slice Ao18 t105.length co18:Value).ownBlock) (Kd.R_keptB (HO_3.out) hkp (fun k_ hk_ hs_=>(hk_) hs_)) (fun k_ hk_=>hk_.1));replace HO_5:=am (Kd.R_reok rfl hy0 (fun k_ e_=>HO_5.out.1 k_ e_));replace HB:=am (hb);(try clear hb);(try clear hkp);(try clear hy0)) | ((with_reducible refine gate_callee (f:=28) rfl ?_);refine goesL_ (some 38) rfl rfl Tryz.func28 k_r rfl #[.slice Ao18 t111.length co18,.int .i64 1] rfl aq34 ?_;(with_reducible refine (laws_heldStringS.calls kj4 _ _ t111 1 t112 _ ?side1 ?side2 A16.out).mono ?_);(case side1=>exact aq24);(case side2=>exact aq62);rintro e w20 ⟨rfl,hb⟩;refine ⟨_,rfl,?_⟩;replace HO_3:=am (Kd.R_below aq10 hb);replace HO_5:=am (Kd.R_below aq22 hb);replace HB:=am (below_step aq1 hb);(try clear hb)))
    go_ret
    exact ⟨aq8,aq1⟩
   rw [if_neg c17] at H
   have c17b0:=decide_eq_false c17
   clear c17
   by_cases c21:t112 = t110
   rotate_left
   ·rw [if_neg c21] at H
    have c21b0:=beq_eq_false_iff_ne.mpr c21
    have c21b1:=bne_iff_ne.mpr c21
    obtain rfl:=Option.some.inj H
    obtain ⟨Ao41,co41,eo41⟩:=Kd.R_slice HO_5.out
    subst eo41
    go_wp2_with (first | ((with_reducible refine gate_callee (f:=27) rfl ?_);refine goesL_ (some 35) rfl rfl Tryz.func27 k_r rfl #[.slice Ao41 t105.length co41,.int .i64 1] rfl aq7 ?_;(with_reducible refine (laws_markStringS.calls kj4 (fun k_=>some k_ = (.slice Ao41 t105.length co41:Value).ownBlock) (.slice Ao41 t105.length co41) t105 1 t110 t111 w _ ?side1 ?side2 A15.out).mono ?_);(case side1=>exact aq1);(case side2=>exact Kd.R_tight rfl HO_5.out);rintro e w42 ⟨rfl,hy0,hb,hkp⟩;refine ⟨_,rfl,?_⟩;replace HO_3:=am (Kd.R_mono (ok':=fun k_=>some k_ ≠ (.slice Ao41 t105.length co41:Value).ownBlock) (Kd.R_keptB (HO_3.out) hkp (fun k_ hk_ hs_=>(hk_) hs_)) (fun k_ hk_=>hk_.1));replace HO_5:=am (Kd.R_reok rfl hy0 (fun k_ e_=>HO_5.out.1 k_ e_));replace HB:=am (hb);(try clear hb);(try clear hkp);(try clear hy0)) | ((with_reducible refine gate_callee (f:=28) rfl ?_);refine goesL_ (some 38) rfl rfl Tryz.func28 k_r rfl #[.slice Ao41 t111.length co41,.int .i64 1] rfl aq34 ?_;(with_reducible refine (laws_heldStringS.calls kj4 _ _ t111 1 t112 _ ?side1 ?side2 A16.out).mono ?_);(case side1=>exact aq24);(case side2=>exact aq62);rintro e w43 ⟨rfl,hb⟩;refine ⟨_,rfl,?_⟩;replace HO_3:=am (Kd.R_below aq10 hb);replace HO_5:=am (Kd.R_below aq22 hb);replace HB:=am (below_step aq1 hb);(try clear hb)))
    go_ret
    exact ⟨aq8,aq1⟩
   rw [if_pos c21] at H
   have c21b0:=beq_iff_eq.mpr c21
   have c21b1:=bne_eq_false_iff_eq.mpr c21
   clear c21
   replace H:=Option.bind_eq_some_iff.mp H
   obtain ⟨⟨t113,t114⟩,A220,H⟩:=H
   replace H:((laws_eqStringS.f kj4 t113 t101).bind fun t117=>(if t117 = true then (laws_FnExactLastingTrays.j1 kj4 t111 t110 (t114 != t102)) else (laws_FnExactLastingTrays.j1 kj4 t111 t110 true))) = some r:=H
   have A22:=am A220
   clear A220
   have HC23:=am H
   clear H
   obtain ⟨Ao24,co24,eo24⟩:=Kd.R_slice HO_5.out
   subst eo24
   go_upto_region 16 with (first | ((with_reducible refine gate_callee (f:=27) rfl ?_);refine goesL_ (some 35) rfl rfl Tryz.func27 k_r rfl #[.slice Ao24 t105.length co24,.int .i64 1] rfl aq7 ?_;(with_reducible refine (laws_markStringS.calls kj4 (fun k_=>some k_ = (.slice Ao24 t105.length co24:Value).ownBlock) (.slice Ao24 t105.length co24) t105 1 t110 t111 w _ ?side1 ?side2 A15.out).mono ?_);(case side1=>exact aq1);(case side2=>exact Kd.R_tight rfl HO_5.out);rintro e w25 ⟨rfl,hy0,hb,hkp⟩;refine ⟨_,rfl,?_⟩;replace HO_3:=am (Kd.R_mono (ok':=fun k_=>some k_ ≠ (.slice Ao24 t105.length co24:Value).ownBlock) (Kd.R_keptB (HO_3.out) hkp (fun k_ hk_ hs_=>(hk_) hs_)) (fun k_ hk_=>hk_.1));replace HO_5:=am (Kd.R_reok rfl hy0 (fun k_ e_=>HO_5.out.1 k_ e_));replace HB:=am (hb);(try clear hb);(try clear hkp);(try clear hy0)) | ((with_reducible refine gate_callee (f:=28) rfl ?_);refine goesL_ (some 38) rfl rfl Tryz.func28 k_r rfl #[.slice Ao24 t111.length co24,.int .i64 1] rfl aq34 ?_;(with_reducible refine (laws_heldStringS.calls kj4 _ _ t111 1 t112 _ ?side1 ?side2 A16.out).mono ?_);(case side1=>exact aq24);(case side2=>exact aq62);rintro e w26 ⟨rfl,hb⟩;refine ⟨_,rfl,?_⟩;replace HO_3:=am (Kd.R_below aq10 hb);replace HO_5:=am (Kd.R_below aq22 hb);replace HB:=am (below_step aq1 hb);(try clear hb)) | ((with_reducible refine gate_callee (f:=40) rfl ?_);refine goesL_ (some 46) rfl rfl Tryz.func40 k_r rfl #[.string a0] rfl aq7 ?_;(with_reducible refine (impl_LastingTrays.calls a0 t113 t114 _ A22.out).mono ?_);rintro e w27 ⟨v115,rfl,ho0,hb⟩;refine ⟨_,rfl,?_⟩;have HO116:=am (Kd.R_lower (Kd.R_new' (Kd.R_new' ho0 (Kd.R_lt aq10)) (Kd.R_lt aq22)) (below_size aq1));replace HO_3:=am (Kd.R_elder' aq10 (Kd.R_base ho0) hb);replace HO_5:=am (Kd.R_elder' aq22 (Kd.R_base ho0) hb);replace HB:=am (below_step aq1 hb);(try clear hb);(try clear ho0)))
   (try simp only [Act.put,List.setIfInBounds_toArray,List.set_cons_zero,List.set_cons_succ])
   go_cut [57] (fun v57 wc=>∃ (kq:Nat) (x57_22:Bool),v57 = .bool x57_22 ∧ Aside0 (laws_FnExactLastingTrays.j1 kq t111 t110 x57_22 = some r) ∧ Aside0 (kq ≤ kj4) ∧ Aside0 (Kd.R Kd.string 9 wc w.heap.size (fun _=>True) (.slice Ao24 t105.length co24) t111) ∧ Aside0 (Below w.heap.size w wc))
   case first =>
    have H:=HC23.out
    clear HC23
    obtain ⟨t117,A28,H⟩:=bn H
    by_cases c29:t117 = true
    ·subst c29
     rw [if_pos rfl] at H
     have H':=am H
     clear H
     obtain ⟨Ao30,co30,eo30⟩:=Kd.R_slice HO116.out
     subst eo30
     obtain ⟨Ao31,co31,eo31⟩:=Kd.R_slice HO_3.out
     subst eo31
     go_wp2_with (first | ((with_reducible refine gate_callee (f:=26) rfl ?_);refine goesL_ (some 51) rfl rfl Tryz.func26 k_r rfl #[.slice Ao30 t113.length co30,.slice Ao31 t101.length co31] rfl aq7 ?_;(with_reducible refine (laws_eqStringS.calls kj4 _ _ t113 _ _ t101 true _ ?side1 ?side2 ?side3 ?side4 A28.out).mono ?_);(case side1=>exact aq69);(case side2=>exact (Kd.R_reads' HO116.out).2.1);(case side3=>exact aq73);(case side4=>exact (Kd.R_reads' HO_3.out).2.1);rintro e w' ⟨rfl,⟨nd,rfl⟩⟩;refine ⟨_,rfl,?_⟩))
     go_meet
     case rel=>exact ⟨_,((t114 != t102)),aq6,H',⟨by have:=HJ4.out;first | omega | exact Nat.le_refl _⟩,⟨aq84⟩,⟨aq1⟩⟩
    replace c29:=Bool.eq_false_iff.mpr c29
    subst c29
    rw [if_neg Bool.false_ne_true] at H
    have H':=am H
    clear H
    obtain ⟨Ao32,co32,eo32⟩:=Kd.R_slice HO116.out
    subst eo32
    obtain ⟨Ao33,co33,eo33⟩:=Kd.R_slice HO_3.out
    subst eo33
    go_wp2_with (first | ((with_reducible refine gate_callee (f:=26) rfl ?_);refine goesL_ (some 51) rfl rfl Tryz.func26 k_r rfl #[.slice Ao32 t113.length co32,.slice Ao33 t101.length co33] rfl aq7 ?_;(with_reducible refine (laws_eqStringS.calls kj4 _ _ t113 _ _ t101 false _ ?side1 ?side2 ?side3 ?side4 A28.out).mono ?_);(case side1=>exact aq69);(case side2=>exact (Kd.R_reads' HO116.out).2.1);(case side3=>exact aq73);(case side4=>exact (Kd.R_reads' HO_3.out).2.1);rintro e w' ⟨rfl,⟨nd,rfl⟩⟩;refine ⟨_,rfl,?_⟩))
    go_meet
    case rel=>exact ⟨_,(true),aq6,H',⟨by have:=HJ4.out;first | omega | exact Nat.le_refl _⟩,⟨aq84⟩,⟨aq1⟩⟩
   case rest =>
    clear HC23
    try clear c1
    try clear c2
    try clear c2b0
    try clear c2b1
    try clear p2
    try clear c3
    try clear c4
    try clear c9
    try clear c11
    try clear c14
    try clear c17
    try clear c17b0
    try clear c21
    try clear c21b0
    try clear c21b1
    try clear c26
    try clear c27
    try clear c28
    try clear c29
    try clear p2
    obtain ⟨kq,x57_22,rfl,HA,HJ22,HO_5,HB⟩:=hcut
    have hl5_22:=(Kd.R_reads' HO_5.out).1
    rw [hl5_22] at HO_5
    (try simp only [hl5_22])
    cases kq with
    | zero=>exact absurd HA.out (by simp [laws_FnExactLastingTrays.j1])
    | succ kj22 =>
     have H:=HA.out
     clear HA
     simp only [laws_FnExactLastingTrays.j1] at H
     by_cases c34:x57_22 = true
     ·subst c34
      rw [if_pos rfl] at H
      obtain rfl:=Option.some.inj H
      go_wp2
      go_ret
      exact ⟨aq8,aq1⟩
     replace c34:=Bool.eq_false_iff.mpr c34
     subst c34
     rw [if_neg Bool.false_ne_true] at H
     obtain ⟨t118,A35,H⟩:=bn H
     by_cases c36:t118 < 0
     ·rw [if_pos c36] at H
      have c36b0:=decide_eq_true c36
      clear c36
      obtain rfl:=Option.some.inj H
      go_wp2_with (first | ((with_reducible refine gate_callee (f:=28) rfl ?_);refine goesL_ (some 60) rfl rfl Tryz.func28 k_r rfl #[.slice Ao24 t111.length co24,.int .i64 1] rfl aq7 ?_;(with_reducible refine (laws_heldStringS.calls kj22 _ _ t111 1 t118 _ ?side1 ?side2 A35.out).mono ?_);(case side1=>exact aq24);(case side2=>exact (Kd.R_reads' HO_5.out).2.1);rintro e w37 ⟨rfl,hb⟩;refine ⟨_,rfl,?_⟩;replace HO_5:=am (Kd.R_below aq22 hb);replace HB:=am (below_step aq1 hb);(try clear hb)))
      go_ret
      exact ⟨aq8,aq1⟩
     rw [if_neg c36] at H
     have c36b0:=decide_eq_false c36
     clear c36
     by_cases c38:t118 = t110
     rotate_left
     ·rw [if_neg c38] at H
      have c38b0:=beq_eq_false_iff_ne.mpr c38
      have c38b1:=bne_iff_ne.mpr c38
      obtain rfl:=Option.some.inj H
      go_wp2_with (first | ((with_reducible refine gate_callee (f:=28) rfl ?_);refine goesL_ (some 60) rfl rfl Tryz.func28 k_r rfl #[.slice Ao24 t111.length co24,.int .i64 1] rfl aq7 ?_;(with_reducible refine (laws_heldStringS.calls kj22 _ _ t111 1 t118 _ ?side1 ?side2 A35.out).mono ?_);(case side1=>exact aq24);(case side2=>exact (Kd.R_reads' HO_5.out).2.1);rintro e w40 ⟨rfl,hb⟩;refine ⟨_,rfl,?_⟩;replace HO_5:=am (Kd.R_below aq22 hb);replace HB:=am (below_step aq1 hb);(try clear hb)))
      go_ret
      exact ⟨aq8,aq1⟩
     rw [if_pos c38] at H
     have c38b0:=beq_iff_eq.mpr c38
     have c38b1:=bne_eq_false_iff_eq.mpr c38
     clear c38
     obtain rfl:=Option.some.inj H
     go_wp2_with (first | ((with_reducible refine gate_callee (f:=28) rfl ?_);refine goesL_ (some 60) rfl rfl Tryz.func28 k_r rfl #[.slice Ao24 t111.length co24,.int .i64 1] rfl aq7 ?_;(with_reducible refine (laws_heldStringS.calls kj22 _ _ t111 1 t118 _ ?side1 ?side2 A35.out).mono ?_);(case side1=>exact aq24);(case side2=>exact (Kd.R_reads' HO_5.out).2.1);rintro e w39 ⟨rfl,hb⟩;refine ⟨_,rfl,?_⟩;replace HO_5:=am (Kd.R_below aq22 hb);replace HB:=am (below_step aq1 hb);(try clear hb)))
     go_ret
     exact ⟨aq8,aq1⟩
end Go.Proofs.YtldhkbiomingbaaGreatDoor.F

namespace Go.Proofs.YtldhkbiomingbaaGreatDoor.F
open Go.RowKit Go.Proofs.YtldhkbiomingbaaGreatDoor Go.YW.PrintWords Go.YW.PrintMore
theorem lastA_len (t:ByteArray):(lastA t).1.length ≤ 300:=by
 unfold lastA
 cases hs:srch t with
 | none=>simp
 | some q =>
  obtain ⟨w,h,s⟩:=q
  obtain ⟨cs,_,_,_,_,o⟩:=srch_some hs
  simp only
  rw [sortB_len]
  exact Nat.le_trans (lastT_len w h s _) o.ok.most
theorem impl_last_eq (t:ByteArray) (ht:t.size < 4294967281):impl_LastingTrays.f t = some (lastA t):=by
 unfold impl_LastingTrays.f
 rw [if_pos ht]
theorem FnExactLastingTrays (a:ByteArray) (ha:a.size ≤ 9223372036854775807):∃ k,laws_FnExactLastingTrays.f k a = some true:=by
 refine Ev.rounds (g:=fun k=>laws_FnExactLastingTrays.f k a) ?_
 unfold laws_FnExactLastingTrays.f
 by_cases c0:(a.size:Int) > 1048576
 ·exact Ev.congr (fun k=>if_pos c0) (Ev.now _)
 have hI:=impl_last_eq a o_m
 have hS:spec_LastingTrays.f a = some (lastA a):=rfl
 have hlen:=lastA_len a
 refine Ev.congr (fun k=>by rw [if_neg c0,hS,Option.bind_some,hI,Option.bind_some]) ?_
 generalize lastA a = R at hI hS hlen
 have hE:=eqS_ev R.1 o_m
 have hM:=markS_ev R.1 o_m
 have hH:=heldS_ev R.1.length o_m
 have hend:Ev (fun k=>laws_FnExactLastingTrays.j1 k (marksT 1 R.1.length) ((1 + R.1.length:Nat):Int) false) true:=by
  refine Ev.step (fun k=>by rw [laws_FnExactLastingTrays.j1,if_neg Bool.false_ne_true]) (Ev.bind hH ?_)
  exact Ev.congr (fun k=>by rw [if_neg o_m,if_pos rfl]) (Ev.now _)
 have hmid:Ev (fun k=>laws_FnExactLastingTrays.j0 k a R.1 R.2 R.1 false) true:=by
  refine Ev.step (fun k=>by rw [laws_FnExactLastingTrays.j0,if_neg Bool.false_ne_true]) (Ev.bind hM (Ev.bind hH ?_))
  refine Ev.congr (fun k=>by rw [if_neg o_m,if_pos rfl,hI,Option.bind_some]) (Ev.bind hE ?_)
  refine Ev.congr (fun k=>if_pos rfl) ?_
  rw [bne_self_eq_false]
  exact hend
 refine Ev.bind hE ?_
 refine Ev.congr (fun k=>if_pos rfl) ?_
 rw [bne_self_eq_false]
 exact hmid
end Go.Proofs.YtldhkbiomingbaaGreatDoor.F
