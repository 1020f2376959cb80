/- The proof that the law's row holds, part 7: the kit's words, the printed walks and the plain law. No conditions beyond the card's own. -/
import Derived.Deep.RegionHeld3
import Derived.Test.YtldhkbiomingbaaGreatDoorJ0
import Derived.Test.YtldhkbiomingbaaGreatDoorJ1
import Derived.Test.YtldhkbiomingbaaGreatDoorJ2
import Derived.Test.YtldhkbiomingbaaGreatDoorJ3
import Derived.Test.YtldhkbiomingbaaGreatDoorJ4
import Derived.Test.YtldhkbiomingbaaGreatDoorJ5
import Derived.Test.YtldhkbiomingbaaGreatDoorJ6
set_option linter.unusedVariables false
set_option linter.unusedSimpArgs false
set_option maxHeartbeats 8000000
set_option maxRecDepth 100000
namespace Go.Proofs.YtldhkbiomingbaaGreatDoor.F
open Go.Proofs.YtldhkbiomingbaaGreatDoor
open Go.RowKit Go.YW.PrintWords Go.YW.PrintLast Go.YW.PrintMore
attribute [local go_sem] max2_int min2_int max_two min_two max_three min_three max_four min_four
def impl_reach_cells.l0:Nat → ByteArray → List Int → List ByteArray → Int → Int → Option (List Int)
 | 0,_,_,_,_,_=>none
 | k + 1,x1,x5,x10,x11,x12=>if x12 < x11 then (if 0 ≤ x12 then (if x12 < (x10.length:Int) then ((impl_read.f (rdOf ByteArray.empty x10 x12)).bind fun bt106=>(if 0 < (x1.size:Int) then ((slices_Index_byte_byte.f k bt106.2.2 (bt x1 0)).bind fun t111=>(if x5.length < 17592186044416 then (impl_reach_cells.l0 k x1 (x5 ++ [t111]) x10 x11 (wrap64 (x12 + 1))) else (none))) else (none))) else (none)) else (none)) else (some x5)
theorem impl_reach_cells.mono_l:∀ k,(∀ y0 y1 y2 y3 y4,LeO (impl_reach_cells.l0 k y0 y1 y2 y3 y4) (impl_reach_cells.l0 (k + 1) y0 y1 y2 y3 y4))
 | 0=>fun _ _ _ _ _ r h=>by simp [impl_reach_cells.l0] at h
 | k + 1=>by
  have ih0:=impl_reach_cells.mono_l k
  ·intro y0 y1 y2 y3 y4
   unfold impl_reach_cells.l0
   have im0:=@slices_Index_byte_byte.mono;exact mo
def slices_Index_int_int.l0:Nat → List Int → Int → Int → Int → Option (Int)
 | 0,_,_,_,_=>none
 | k + 1,x0,x1,x7,x8=>if x8 < x7 then (if 0 ≤ x8 then (if x8 < (x0.length:Int) then (if x1 = (rd x0 x8) then (some x8) else (slices_Index_int_int.l0 k x0 x1 x7 (wrap64 (x8 + 1)))) else (none)) else (none)) else (some (-1))
theorem slices_Index_int_int.mono_l:∀ k,(∀ y0 y1 y2 y3,LeO (slices_Index_int_int.l0 k y0 y1 y2 y3) (slices_Index_int_int.l0 (k + 1) y0 y1 y2 y3))
 | 0=>fun _ _ _ _ r h=>by simp [slices_Index_int_int.l0] at h
 | k + 1=>by
  have ih0:=slices_Index_int_int.mono_l k
  ·intro y0 y1 y2 y3
   unfold slices_Index_int_int.l0
   exact mo

end Go.Proofs.YtldhkbiomingbaaGreatDoor.F

namespace Go.Proofs.YtldhkbiomingbaaGreatDoor.F
open Go.Proofs.YtldhkbiomingbaaGreatDoor
open Go.RowKit Go.YW.PrintWords Go.YW.PrintMore
theorem placeI_read {w h:Nat} {c:List Int} (v:Vg (w,h,c)):impl_read.f (textB (w,h,c)) = some ((w:Int),(h:Int),c):=impl_read_eq _ (grid_textB v)
theorem cells_l0 {w h:Nat} {s:RS} {n:ByteArray} (hn:n.size = 1) (hv:∀ c ∈ s.T,Vg (w,h,c)) (hl:s.T.length ≤ 300):∀ (d i:Nat),i + d = s.T.length →
  Ev (fun k=>impl_reach_cells.l0 k n ((cellsI s (bt n 0)).take i) (rT w h s) ((rT w h s).length:Int) i) (cellsI s (bt n 0))
 | 0,i,hi=>by
  refine Ev.step (f:=fun _=>some (cellsI s (bt n 0))) (fun k=>?_) (Ev.now _)
  rw [impl_reach_cells.l0,if_neg (by rw [rT_len];omega),List.take_of_length_le (by rw [cellsI_len];omega)]
 | d + 1,i,hi=>by
  have hlt:i < s.T.length:=by omega
  have ih:=cells_l0 hn hv hl d (i + 1) o_m
  have hvi:=hv _ (getD_mem (d:=([]:List Int)) hlt)
  have hrd:rdOf ByteArray.empty (rT w h s) (i:Int) = textB (w,h,s.T.getD i []):=by
   unfold rdOf rT
   rw [Int.toNat_natCast,List.getD_eq_getElem?_getD,List.getElem?_map,List.getElem?_eq_getElem hlt,getD_lt hlt];rfl
  have hll:=(tray_small hvi).2
  simp only at hll
  have hix:=index_l0 (cs:=s.T.getD i []) o_m (bt n 0) _ 0 (Nat.zero_add _) (fun j hj=>by omega)
  have htk:(cellsI s (bt n 0)).take i ++ [placeI (bt n 0) (s.T.getD i [])] = (cellsI s (bt n 0)).take (i + 1):=by
   rw [List.take_succ_eq_append_getElem (by rw [cellsI_len];exact hlt),← cellsI_get s (bt n 0) hlt,getD_lt (by rw [cellsI_len];exact hlt)]
  refine Ev.step (f:=fun k=>(slices_Index_byte_byte.f k (s.T.getD i []) (bt n 0)).bind fun t111=>(if ((cellsI s (bt n 0)).take i).length < 17592186044416 then (impl_reach_cells.l0 k n ((cellsI s (bt n 0)).take i ++ [t111]) (rT w h s) ((rT w h s).length:Int) (wrap64 ((i:Int) + 1))) else none)) (fun k=>?_) ?_
  ·rw [impl_reach_cells.l0,if_pos (by rw [rT_len];omega),if_pos o_m,if_pos (by rw [rT_len];omega),hrd,placeI_read hvi,Option.bind_some,if_pos o_m]
  ·refine Ev.bind hix (Ev.congr (fun k=>?_) ih)
   rw [if_pos (by rw [List.length_take];omega)]
   show impl_reach_cells.l0 k n (_ ++ [placeI (bt n 0) (s.T.getD i [])]) _ _ _ = _
   rw [htk,show (i:Int) + 1 = ((i + 1:Nat):Int) by omega,w64t o_m]
end Go.Proofs.YtldhkbiomingbaaGreatDoor.F

namespace Go.Proofs.YtldhkbiomingbaaGreatDoor.F
open Go.Proofs.YtldhkbiomingbaaGreatDoor
open Go.RowKit Go.YW.PrintWords Go.YW.PrintLast Go.YW.PrintMore
attribute [local go_sem] max2_int min2_int max_two min_two max_three min_three max_four min_four


end Go.Proofs.YtldhkbiomingbaaGreatDoor.F

namespace Go.Proofs.YtldhkbiomingbaaGreatDoor.F
open Go.Proofs.YtldhkbiomingbaaGreatDoor
open Go.RowKit Go.YW.PrintWords Go.YW.PrintMore
theorem reachOf_some {t:ByteArray} {w h:Nat} {s:RS} (ht:t.size < 4294967281) (hs:srch t = some (w,h,s)):impl_reachOf.f t = some (rT w h s,castsI s.F,s.N.map castsI,rW s,true):=by
 unfold impl_reachOf.f
 rw [if_pos ht,hs]
theorem reachOf_none {t:ByteArray} (ht:t.size < 4294967281) (hs:srch t = none):impl_reachOf.f t = some ([],[],[],[],false):=by
 unfold impl_reachOf.f
 rw [if_pos ht,hs]
end Go.Proofs.YtldhkbiomingbaaGreatDoor.F

namespace Go.Proofs.YtldhkbiomingbaaGreatDoor.F
open Go.Proofs.YtldhkbiomingbaaGreatDoor
open Go.RowKit Go.YW.PrintWords Go.YW.PrintLast Go.YW.PrintMore
attribute [local go_sem] max2_int min2_int max_two min_two max_three min_three max_four min_four
mutual
def impl_reach_ways.l0:Nat → List Int → List (List Int) → Int → Int → List ByteArray → List Int → List (List Int) → List ByteArray → Option (List Int)
 | 0,_,_,_,_,_,_,_,_=>none
 | k + 1,x3,x15,x16,x17,x102000,x102001,x102002,x102003=>if x17 < x16 then (if 0 ≤ x17 then (if x17 < (x15.length:Int) then (impl_reach_ways.l1 k x3 x17 x15 x16 x17 (rd_L3 x15 x17) ((rd_L3 x15 x17).length:Int) 0 x102000 x102001 x102002 x102003) else (none)) else (none)) else (some x3)
def impl_reach_ways.l1:Nat → List Int → Int → List (List Int) → Int → Int → List Int → Int → Int → List ByteArray → List Int → List (List Int) → List ByteArray → Option (List Int)
 | 0,_,_,_,_,_,_,_,_,_,_,_,_=>none
 | k + 1,x3,x4,x15,x16,x17,x22,x23,x24,x102000,x102001,x102002,x102003=>if x24 < x23 then (if 0 ≤ x24 then (if x24 < (x22.length:Int) then (if 0 ≤ (rd x22 x24) then (if (rd x22 x24) < (x102001.length:Int) then (if 0 ≤ x4 then (if x4 < (x102001.length:Int) then (if (rd x102001 (rd x22 x24)) = (wrap64 ((rd x102001 x4) + 1)) then (if (rd x22 x24) < (x3.length:Int) then (if x4 < (x3.length:Int) then (impl_reach_ways.l1 k (x3.set ((rd x22 x24):Int).toNat (wrap64 ((rd x3 (rd x22 x24)) + (rd x3 x4)))) x4 x15 x16 x17 x22 x23 (wrap64 (x24 + 1)) x102000 x102001 x102002 x102003) else (none)) else (none)) else (impl_reach_ways.l1 k x3 x4 x15 x16 x17 x22 x23 (wrap64 (x24 + 1)) x102000 x102001 x102002 x102003)) else (none)) else (none)) else (none)) else (none)) else (none)) else (none)) else (impl_reach_ways.l0 k x3 x15 x16 (wrap64 (x17 + 1)) x102000 x102001 x102002 x102003)
end
theorem impl_reach_ways.mono_l:∀ k,(∀ y0 y1 y2 y3 y4 y5 y6 y7,LeO (impl_reach_ways.l0 k y0 y1 y2 y3 y4 y5 y6 y7) (impl_reach_ways.l0 (k + 1) y0 y1 y2 y3 y4 y5 y6 y7)) ∧ (∀ y0 y1 y2 y3 y4 y5 y6 y7 y8 y9 y10 y11,LeO (impl_reach_ways.l1 k y0 y1 y2 y3 y4 y5 y6 y7 y8 y9 y10 y11) (impl_reach_ways.l1 (k + 1) y0 y1 y2 y3 y4 y5 y6 y7 y8 y9 y10 y11))
 | 0=>⟨fun _ _ _ _ _ _ _ _ r h=>by simp [impl_reach_ways.l0] at h,fun _ _ _ _ _ _ _ _ _ _ _ _ r h=>by simp [impl_reach_ways.l1] at h⟩
 | k + 1=>by
  obtain ⟨ih0,ih1⟩:=impl_reach_ways.mono_l k
  refine ⟨?_,?_⟩
  ·intro y0 y1 y2 y3 y4 y5 y6 y7
   unfold impl_reach_ways.l0
   exact mo
  ·intro y0 y1 y2 y3 y4 y5 y6 y7 y8 y9 y10 y11
   unfold impl_reach_ways.l1
   exact mo
end Go.Proofs.YtldhkbiomingbaaGreatDoor.F

namespace Go.Proofs.YtldhkbiomingbaaGreatDoor.F
open Go.Proofs.YtldhkbiomingbaaGreatDoor
open Go.RowKit Go.YW.PrintWords Go.YW.PrintMore
theorem rd_casts {l:List Nat} {i:Nat} (h:i < l.length):rd (castsI l) (i:Int) = ((l.getD i 0:Nat):Int):=by
 unfold rd
 rw [Int.toNat_natCast,List.getD_eq_getElem?_getD,castsI_getD _ _ h,getD_lt h];rfl
end Go.Proofs.YtldhkbiomingbaaGreatDoor.F

namespace Go.Proofs.YtldhkbiomingbaaGreatDoor.F
open Go.Proofs.YtldhkbiomingbaaGreatDoor
open Go.RowKit Go.YW.PrintWords Go.YW.PrintLast Go.YW.PrintMore
attribute [local go_sem] max2_int min2_int max_two min_two max_three min_three max_four min_four
mutual
def impl_reach_reaching.l0:Nat → List (List Bool) → Int → Int → List ByteArray → List Int → List (List Int) → List ByteArray → Option ((List (List Bool)))
 | 0,_,_,_,_,_,_,_=>none
 | k + 1,x3,x13,x14,x102000,x102001,x102002,x102003=>if x14 < x13 then (if 0 ≤ (x102000.length:Int) then (if ((x102000.length:Int):Int).toNat ≤ 281474976710656 then ((some (List.replicate ((x102000.length:Int):Int).toNat false:List Bool)).bind fun y105=>(if 0 ≤ x14 then (if x14 < (y105.length:Int) then (impl_reach_reaching.l1 k x3 (y105.set (x14:Int).toNat true) (([x14]:List Int)) 0 x13 x14 x102000 x102001 x102002 x102003) else (none)) else (none))) else (none)) else (none)) else (some x3)
def impl_reach_reaching.l1:Nat → List (List Bool) → List Bool → List Int → Int → Int → Int → List ByteArray → List Int → List (List Int) → List ByteArray → Option ((List (List Bool)))
 | 0,_,_,_,_,_,_,_,_,_,_=>none
 | k + 1,x3,x5,x6,x7,x13,x14,x102000,x102001,x102002,x102003=>if x7 < (x6.length:Int) then (if 0 ≤ x7 then (if 0 ≤ (rd x6 x7) then (if (rd x6 x7) < (x102002.length:Int) then (impl_reach_reaching.l2 k x3 x5 x6 x7 x13 x14 (rd_L3 x102002 (rd x6 x7)) ((rd_L3 x102002 (rd x6 x7)).length:Int) 0 x102000 x102001 x102002 x102003) else (none)) else (none)) else (none)) else (if x3.length < 5864062014805 then (impl_reach_reaching.l0 k (x3 ++ [x5]) x13 (wrap64 (x14 + 1)) x102000 x102001 x102002 x102003) else (none))
def impl_reach_reaching.l2:Nat → List (List Bool) → List Bool → List Int → Int → Int → Int → List Int → Int → Int → List ByteArray → List Int → List (List Int) → List ByteArray → Option ((List (List Bool)))
 | 0,_,_,_,_,_,_,_,_,_,_,_,_,_=>none
 | k + 1,x3,x5,x6,x7,x13,x14,x39,x40,x41,x102000,x102001,x102002,x102003=>if x41 < x40 then (if 0 ≤ x41 then (if x41 < (x39.length:Int) then (if 0 ≤ (rd x39 x41) then (if (rd x39 x41) < (x5.length:Int) then (if (rdOf false x5 (rd x39 x41) = true) then (impl_reach_reaching.l2 k x3 x5 x6 x7 x13 x14 x39 x40 (wrap64 (x41 + 1)) x102000 x102001 x102002 x102003) else (if x6.length < 17592186044416 then (impl_reach_reaching.l2 k x3 (x5.set ((rd x39 x41):Int).toNat true) (x6 ++ [rd x39 x41]) x7 x13 x14 x39 x40 (wrap64 (x41 + 1)) x102000 x102001 x102002 x102003) else (none))) else (none)) else (none)) else (none)) else (none)) else (impl_reach_reaching.l1 k x3 x5 x6 (wrap64 (x7 + 1)) x13 x14 x102000 x102001 x102002 x102003)
end
def impl_reach_reaching.f (k:Nat) (l0_0:List ByteArray) (l0_1:List Int) (l0_2:List (List Int)) (l0_3:List ByteArray):Option ((List (List Bool))):=impl_reach_reaching.l0 k (([]:List (List Bool))) (l0_0.length:Int) 0 l0_0 l0_1 l0_2 l0_3
theorem impl_reach_reaching.mono_l:∀ k,(∀ y0 y1 y2 y3 y4 y5 y6,LeO (impl_reach_reaching.l0 k y0 y1 y2 y3 y4 y5 y6) (impl_reach_reaching.l0 (k + 1) y0 y1 y2 y3 y4 y5 y6)) ∧ (∀ y0 y1 y2 y3 y4 y5 y6 y7 y8 y9,LeO (impl_reach_reaching.l1 k y0 y1 y2 y3 y4 y5 y6 y7 y8 y9) (impl_reach_reaching.l1 (k + 1) y0 y1 y2 y3 y4 y5 y6 y7 y8 y9)) ∧ (∀ y0 y1 y2 y3 y4 y5 y6 y7 y8 y9 y10 y11 y12,LeO (impl_reach_reaching.l2 k y0 y1 y2 y3 y4 y5 y6 y7 y8 y9 y10 y11 y12) (impl_reach_reaching.l2 (k + 1) y0 y1 y2 y3 y4 y5 y6 y7 y8 y9 y10 y11 y12))
 | 0=>⟨fun _ _ _ _ _ _ _ r h=>by simp [impl_reach_reaching.l0] at h,fun _ _ _ _ _ _ _ _ _ _ r h=>by simp [impl_reach_reaching.l1] at h,fun _ _ _ _ _ _ _ _ _ _ _ _ _ r h=>by simp [impl_reach_reaching.l2] at h⟩
 | k + 1=>by
  obtain ⟨ih0,ih1,ih2⟩:=impl_reach_reaching.mono_l k
  refine ⟨?_,?_,?_⟩
  ·intro y0 y1 y2 y3 y4 y5 y6
   unfold impl_reach_reaching.l0
   exact mo
  ·intro y0 y1 y2 y3 y4 y5 y6 y7 y8 y9
   unfold impl_reach_reaching.l1
   exact mo
  ·intro y0 y1 y2 y3 y4 y5 y6 y7 y8 y9 y10 y11 y12
   unfold impl_reach_reaching.l2
   exact mo
theorem impl_reach_reaching.calls (k:Nat) (A0_0:Option Addr) (c0_0:Nat) (l0_0:List ByteArray) (A0_1:Option Addr) (c0_1:Nat) (l0_1:List Int) (A0_2:Option Addr) (c0_2:Nat) (l0_2:List (List Int)) (A0_3:Option Addr) (c0_3:Nat) (l0_3:List ByteArray) (r:List (List Bool)) (w:World) (hr0_0:Kd.C Kd.string w A0_0 l0_0.length l0_0) (hc0_0:l0_0.length ≤ c0_0) (hr0_1:Kd.C (Kd.int .i64) w A0_1 l0_1.length l0_1) (hc0_1:l0_1.length ≤ c0_1) (hr0_2:Kd.C (Kd.slice 3 (Kd.int .i64)) w A0_2 l0_2.length l0_2) (hc0_2:l0_2.length ≤ c0_2) (hr0_3:Kd.C Kd.string w A0_3 l0_3.length l0_3) (hc0_3:l0_3.length ≤ c0_3) (h:impl_reach_reaching.f k l0_0 l0_1 l0_2 l0_3 = some r) :
  Calls Tryz.prog 77 #[.agg #[.slice A0_0 l0_0.length c0_0,.slice A0_1 l0_1.length c0_1,.slice A0_2 l0_2.length c0_2,.slice A0_3 l0_3.length c0_3]] w fun e w'=>∃ v0_:Value,e = .returned (v0_) ∧ Kd.S (Kd.slice 4 Kd.bool) 81 w' w.heap.size (fun _=>True) v0_ r ∧ Below w.heap.size w w':=by
 have hu59:=Tryz.underlying59
 have HR0_0:=am hr0_0
 have HC0_0:=am hc0_0
 clear hr0_0 hc0_0
 have HR0_1:=am hr0_1
 have HC0_1:=am hc0_1
 clear hr0_1 hc0_1
 have HR0_2:=am hr0_2
 have HC0_2:=am hc0_2
 clear hr0_2 hc0_2
 have HR0_3:=am hr0_3
 have HC0_3:=am hc0_3
 clear hr0_3 hc0_3
 have HB:=am (Below.refl w.heap.size w)
 have H:(impl_reach_reaching.l0 k (([]:List (List Bool))) (l0_0.length:Int) 0 l0_0 l0_1 l0_2 l0_3) = some r:=h
 clear h
 obtain ⟨y102,hy_⟩:∃ y_:List (List Bool),y_ = (([]:List (List Bool))):=⟨_,rfl⟩
 replace H:(impl_reach_reaching.l0 k y102 (l0_0.length:Int) 0 l0_0 l0_1 l0_2 l0_3) = some r:=aq3
 have Ny102:=am hy_
 clear hy_
 have H':=am H
 clear H
 go_enter Tryz.func77,Tryz.ntmps77
 go_wp2_with (first | (refine bx 1 #[.slice A0_0 l0_0.length c0_0,.slice A0_1 l0_1.length c0_1,.slice A0_2 l0_2.length c0_2,.slice A0_3 l0_3.length c0_3] 59 ?_;intro gb101 hg w2 hbox hb;have BK101:=am (hbox);have GW101:=am ((by rw [hg];exact (below_size aq1):w.heap.size ≤ gb101));have GE101:=GW101;replace HB:=am (below_step aq1 hb);clear hb hbox hg) | ((with_reducible refine gate_dst (N:=10) rfl ?_);refine Kd.S_lit (Kd.slice 4 Kd.bool) _ 81 ?hg (N:=10) ?hd (xs:=([]:List (List Bool))) (inner:=[]) (ok:=fun _=>True) (okp:=fun _=>True) ?hr ?hp (fun _ hk=>hk) trivial (Below.refl _ _) (Nat.le_refl _) (by simp) ?_;(case hd=>rfl);(case hg=>rfl);(case hr=>exact aq12);(case hp=>exact aq79);intro v103 w3 ho4 hb hg_ hnew_;clear hg_ hnew_;(first | rw [← Ny102.out] at ho4 | (simp only [Int.reduceToNat] at ho4;rw [← Ny102.out] at ho4));have HO104:=am (Kd.S_lower ho4 (below_size aq0));replace BK101:=am (bb BK101 hb);replace HB:=am (below_step aq0 hb);clear hb ho4;obtain ⟨hcz5_0,hcz5_1,hcz5_2,hcz5_3,hfz5_0,hfz5_1,hfz5_2,hfz5_3⟩:=blk4_ BK101.out))
 repeat (go_quiet (first | (refine bx 1 #[.slice A0_0 l0_0.length c0_0,.slice A0_1 l0_1.length c0_1,.slice A0_2 l0_2.length c0_2,.slice A0_3 l0_3.length c0_3] 59 ?_;intro gb101 hg w2 hbox hb;have BK101:=am (hbox);have GW101:=am ((by rw [hg];exact (below_size aq1):w.heap.size ≤ gb101));have GE101:=GW101;replace HB:=am (below_step aq1 hb);clear hb hbox hg) | ((with_reducible refine gate_dst (N:=10) rfl ?_);refine Kd.S_lit (Kd.slice 4 Kd.bool) _ 81 ?hg (N:=10) ?hd (xs:=([]:List (List Bool))) (inner:=[]) (ok:=fun _=>True) (okp:=fun _=>True) ?hr ?hp (fun _ hk=>hk) trivial (Below.refl _ _) (Nat.le_refl _) (by simp) ?_;(case hd=>rfl);(case hg=>rfl);(case hr=>exact aq12);(case hp=>exact aq79);intro v103 w3 ho4 hb hg_ hnew_;clear hg_ hnew_;(first | rw [← Ny102.out] at ho4 | (simp only [Int.reduceToNat] at ho4;rw [← Ny102.out] at ho4));have HO104:=am (Kd.S_lower ho4 (below_size aq0));replace BK101:=am (bb BK101 hb);replace HB:=am (below_step aq0 hb);clear hb ho4;obtain ⟨hcz5_0,hcz5_1,hcz5_2,hcz5_3,hfz5_0,hfz5_1,hfz5_2,hfz5_3⟩:=blk4_ BK101.out));try go_wp2_with (first | (refine bx 1 #[.slice A0_0 l0_0.length c0_0,.slice A0_1 l0_1.length c0_1,.slice A0_2 l0_2.length c0_2,.slice A0_3 l0_3.length c0_3] 59 ?_;intro gb101 hg w2 hbox hb;have BK101:=am (hbox);have GW101:=am ((by rw [hg];exact (below_size aq1):w.heap.size ≤ gb101));have GE101:=GW101;replace HB:=am (below_step aq1 hb);clear hb hbox hg) | ((with_reducible refine gate_dst (N:=10) rfl ?_);refine Kd.S_lit (Kd.slice 4 Kd.bool) _ 81 ?hg (N:=10) ?hd (xs:=([]:List (List Bool))) (inner:=[]) (ok:=fun _=>True) (okp:=fun _=>True) ?hr ?hp (fun _ hk=>hk) trivial (Below.refl _ _) (Nat.le_refl _) (by simp) ?_;(case hd=>rfl);(case hg=>rfl);(case hr=>exact aq12);(case hp=>exact aq79);intro v103 w3 ho4 hb hg_ hnew_;clear hg_ hnew_;(first | rw [← Ny102.out] at ho4 | (simp only [Int.reduceToNat] at ho4;rw [← Ny102.out] at ho4));have HO104:=am (Kd.S_lower ho4 (below_size aq0));replace BK101:=am (bb BK101 hb);replace HB:=am (below_step aq0 hb);clear hb ho4;obtain ⟨hcz5_0,hcz5_1,hcz5_2,hcz5_3,hfz5_0,hfz5_1,hfz5_2,hfz5_3⟩:=blk4_ BK101.out)))
 go_loopg [3,14] k (fun kq v3 v14 w'=>∃ (x3_1:List (List Bool)) (x14_1:Int),v14 = .int .i64 x14_1 ∧ Aside0 (impl_reach_reaching.l0 kq x3_1 (l0_0.length:Int) x14_1 l0_0 l0_1 l0_2 l0_3 = some r) ∧ Aside0 (kq ≤ k) ∧ Aside0 (Kd.S (Kd.slice 4 Kd.bool) 81 w' w.heap.size (fun _=>True) v3 x3_1) ∧ Aside0 (w'.heap[gb101]? = some (.cells #[(.slice A0_0 l0_0.length c0_0),(.slice A0_1 l0_1.length c0_1),(.slice A0_2 l0_2.length c0_2),(.slice A0_3 l0_3.length c0_3)] 59 (0,0))) ∧ Aside0 (Below w.heap.size w w'))
 case atStart=>exact ⟨(y102),(0),aq6,H',⟨Nat.le_refl _⟩,⟨aq37⟩,⟨aq2⟩,⟨aq0⟩⟩
 case round =>
  clear H'
  try clear p2
  try clear hcz5_0
  try clear hcz5_1
  try clear hcz5_2
  try clear hcz5_3
  try clear hfz5_0
  try clear hfz5_1
  try clear hfz5_2
  try clear hfz5_3
  obtain ⟨x3_1,x14_1,rfl,HA,HK1,HO_3,BK101,HB⟩:=hrel
  cases gk with
  | zero=>exact absurd HA.out (by simp [impl_reach_reaching.l0])
  | succ k1 =>
   have H:=HA.out
   clear HA
   simp only [impl_reach_reaching.l0] at H
   by_cases c6:x14_1 < (l0_0.length:Int)
   rotate_left
   ·rw [if_neg c6] at H
    have c6b0:=decide_eq_false c6
    clear c6
    obtain rfl:=Option.some.inj H
    go_wp2
    repeat (go_quiet (fail);try go_wp2)
    go_ret
    exact ⟨_,aq9,aq15,aq0⟩
   rw [if_pos c6] at H
   have c6b0:=decide_eq_true c6
   clear c6
   replace H:=gd H
   obtain ⟨c7,H⟩:=H
   have c7b0:=eq_true c7
   have c7b1:=decide_eq_true c7
   clear c7
   replace H:=gd H
   obtain ⟨c8,H⟩:=H
   have c8b0:=eq_true c8
   have c8b1:=decide_eq_true c8
   clear c8
   obtain ⟨y105,hy_⟩:∃ y_:List Bool,y_ = (List.replicate ((l0_0.length:Int):Int).toNat false):=⟨_,rfl⟩
   replace H:(if 0 ≤ x14_1 then (if x14_1 < (y105.length:Int) then (impl_reach_reaching.l1 k1 x3_1 (y105.set (x14_1:Int).toNat true) (([x14_1]:List Int)) 0 (l0_0.length:Int) x14_1 l0_0 l0_1 l0_2 l0_3) else (none)) else (none)) = some r:=aq3
   have Ny105:=am hy_
   clear hy_
   obtain ⟨y108,hy_⟩:∃ y_:List Int,y_ = (([x14_1]:List Int)):=⟨_,rfl⟩
   replace H:(if 0 ≤ x14_1 then (if x14_1 < (y105.length:Int) then (impl_reach_reaching.l1 k1 x3_1 (y105.set (x14_1:Int).toNat true) y108 0 (l0_0.length:Int) x14_1 l0_0 l0_1 l0_2 l0_3) else (none)) else (none)) = some r:=aq3
   have Ny108:=am hy_
   clear hy_
   replace H:=gd H
   obtain ⟨c9,H⟩:=H
   have c9b0:=decide_eq_true c9
   clear c9
   replace H:=gd H
   obtain ⟨c10,H⟩:=H
   have c10b0:=decide_eq_true c10
   (try simp only [hl5_2] at c10b0);(try simp only [hl5_3] at c10b0)
   clear c10
   obtain ⟨y111,hy_⟩:∃ y_:List Bool,y_ = (y105.set (x14_1:Int).toNat true):=⟨_,rfl⟩
   replace H:(impl_reach_reaching.l1 k1 x3_1 y111 y108 0 (l0_0.length:Int) x14_1 l0_0 l0_1 l0_2 l0_3) = some r:=aq3
   have Ny111:=am hy_
   clear hy_
   have H':=am H
   clear H
   obtain ⟨hcz12_0,hcz12_1,hcz12_2,hcz12_3,hfz12_0,hfz12_1,hfz12_2,hfz12_3⟩:=blk4_ BK101.out
   go_wp2_with (first | ((with_reducible refine gate_dst (N:=20) rfl ?_);refine Kd.R_make Kd.bool _ 4 rfl (N:=20) rfl 81 _ _ rfl (l0_0.length:Int) rfl rfl Tryz.underlying81 (.bool false) 1 info4 rfl d_c o_m false (ok:=fun _=>True) (okp:=fun _=>True) rfl (fun _ hk=>hk) trivial (of_decide_eq_true aq4) (Nat.le_trans (Nat.mul_le_mul_right _ (of_decide_eq_true aq4:(l0_0.length:Int).toNat ≤ 281474976710656)) o_m) (Below.refl _ _) (Nat.le_refl _) ?_;intro v106 w13 ho14 hb hg_ hnew_;clear hg_ hnew_;(first | rw [← Ny105.out] at ho14 | (simp only [Int.reduceToNat] at ho14;rw [← Ny105.out] at ho14));replace HO_3:=am (Kd.S_elder' aq15 (Kd.R_base ho14) hb);have HO107:=am (Kd.R_lower ho14 (below_size aq0));replace BK101:=am (bb BK101 hb);replace HB:=am (below_step aq0 hb);clear hb ho14) | ((with_reducible refine gate_dst (N:=22) rfl ?_);refine Kd.R_lit (Kd.int .i64) _ 3 ?hg (N:=22) ?hd (xs:=([x14_1]:List Int)) (inner:=[.int .i64 x14_1]) (ok:=fun _=>True) (okp:=fun _=>True) ?hr ?hp (fun _ hk=>hk) trivial (Below.refl _ _) (Nat.le_refl _) (by simp) ?_;(case hd=>rfl);(case hg=>rfl);(case hr=>exact aq12);(case hp=>exact aq66);intro v109 w15 ho16 hb hg_ hnew_;clear hg_ hnew_;(first | rw [← Ny108.out] at ho16 | (simp only [Int.reduceToNat] at ho16;rw [← Ny108.out] at ho16));replace HO_3:=am (Kd.S_below aq15 hb);replace HO107:=am (Kd.R_below aq36 hb);have HO110:=am (Kd.R_lower ho16 (below_size aq0));replace BK101:=am (bb BK101 hb);replace HB:=am (below_step aq0 hb);clear hb ho16;have p11:0 ≤ (x14_1:Int):=of_decide_eq_true aq4;have q11:(x14_1:Int) < ((y105.length:Int):Int):=of_decide_eq_true aq4;obtain ⟨go11,co11,eo11,gb11,gl11,cl11,HG11⟩:=Kd.R_form HO107.out o_m;(first | cases eo11 | (injection eo11 with ea_ en_ ec_;(first | subst ea_ | (injection ea_ with ea_;subst ea_));subst ec_;clear en_));have GB11:=am gb11;have GG11:=am HG11;clear gb11 gl11 HG11;obtain ⟨hx11_0,hf11_0⟩:=Kd.R_celln false HO107.out (x14_1:Int) p11 q11;replace p11:=eq_true p11;replace q11:=eq_true q11;obtain ⟨hy17_,hz17_⟩:=Kd.R_celln false HO107.out (x14_1:Int) (of_decide_eq_true aq4) (of_decide_eq_true aq4);have HP17:=Kd.R_putg HO107.out (x14_1:Int) true) | ((with_reducible refine gate_store (t:=4) (p:=25) rfl ?_);(try (rw [drewN_self w15];generalize hq_:World.drewN w15 _ = w15;have n0_:=am (Kd.S_at hq_ HO_3.out);have n1_:=am (Kd.R_at hq_ HO107.out);have n2_:=am (Kd.R_at hq_ HO110.out);have n3_:=am (blk_at hq_ BK101.out);have n4_:=am (below_at hq_ HB.out);clear hq_ HO_3 HO107 HO110 BK101 HB;have HO_3:=n0_;have HO107:=n1_;have HO110:=n2_;have BK101:=n3_;have HB:=n4_;clear n0_ n1_ n2_ n3_ n4_;(try (obtain ⟨hy17_,hz17_⟩:=Kd.R_celln false HO107.out (x14_1:Int) (of_decide_eq_true aq4) (of_decide_eq_true aq4)));(try (have HP17:=Kd.R_putg HO107.out (x14_1:Int) true))));refine store_event (t:=4) (p:=25) (v:=?vo_w18) (w1:=(w15.setCell ⟨go11,(x14_1:Int).toNat,none⟩ (.bool true))) ?hg ?ho ?hn ?hr ?_;(case ho=>rfl);(case hg=>rfl);(case hn=>rfl);(case hr=>exact aq12);intro w18 hw;have hg:w15.grownBy w18 (some go11):=(by rw [hw];exact HP17.2);have hp_:Kd.R Kd.bool 4 w18 w.heap.size (fun _=>True) (.slice (some ⟨go11,0,none⟩) y105.length co11) y111:=(by rw [hw,Ny111.out];exact HP17.1);clear HP17;replace HO_3:=am (Kd.S_after (v:=(.slice (some ⟨go11,0,none⟩) y105.length co11)) (v1:=(.slice (some ⟨go11,0,none⟩) y105.length co11)) (ok:=(fun _=>True)) aq15 hg (.inl rfl));replace BK101:=am (bg BK101 hg (Kd.R_ne HO107.out BK101.out d_c));replace HO110:=am (Kd.R_over' (v:=(.slice (some ⟨go11,0,none⟩) y105.length co11)) aq29 (Kd.R_typed HO107.out) d_c hg);replace HO107:=am (hp_);replace HB:=am ((by rw [hw];exact below_set (HB.out) GB11.out:Below w.heap.size w w18));clear hg hw hp_))
   repeat (go_quiet (first | ((with_reducible refine gate_dst (N:=20) rfl ?_);refine Kd.R_make Kd.bool _ 4 rfl (N:=20) rfl 81 _ _ rfl (l0_0.length:Int) rfl rfl Tryz.underlying81 (.bool false) 1 info4 rfl d_c o_m false (ok:=fun _=>True) (okp:=fun _=>True) rfl (fun _ hk=>hk) trivial (of_decide_eq_true aq4) (Nat.le_trans (Nat.mul_le_mul_right _ (of_decide_eq_true aq4:(l0_0.length:Int).toNat ≤ 281474976710656)) o_m) (Below.refl _ _) (Nat.le_refl _) ?_;intro v106 w13 ho14 hb hg_ hnew_;clear hg_ hnew_;(first | rw [← Ny105.out] at ho14 | (simp only [Int.reduceToNat] at ho14;rw [← Ny105.out] at ho14));replace HO_3:=am (Kd.S_elder' aq15 (Kd.R_base ho14) hb);have HO107:=am (Kd.R_lower ho14 (below_size aq0));replace BK101:=am (bb BK101 hb);replace HB:=am (below_step aq0 hb);clear hb ho14) | ((with_reducible refine gate_dst (N:=22) rfl ?_);refine Kd.R_lit (Kd.int .i64) _ 3 ?hg (N:=22) ?hd (xs:=([x14_1]:List Int)) (inner:=[.int .i64 x14_1]) (ok:=fun _=>True) (okp:=fun _=>True) ?hr ?hp (fun _ hk=>hk) trivial (Below.refl _ _) (Nat.le_refl _) (by simp) ?_;(case hd=>rfl);(case hg=>rfl);(case hr=>exact aq12);(case hp=>exact aq66);intro v109 w15 ho16 hb hg_ hnew_;clear hg_ hnew_;(first | rw [← Ny108.out] at ho16 | (simp only [Int.reduceToNat] at ho16;rw [← Ny108.out] at ho16));replace HO_3:=am (Kd.S_below aq15 hb);replace HO107:=am (Kd.R_below aq36 hb);have HO110:=am (Kd.R_lower ho16 (below_size aq0));replace BK101:=am (bb BK101 hb);replace HB:=am (below_step aq0 hb);clear hb ho16;have p11:0 ≤ (x14_1:Int):=of_decide_eq_true aq4;have q11:(x14_1:Int) < ((y105.length:Int):Int):=of_decide_eq_true aq4;obtain ⟨go11,co11,eo11,gb11,gl11,cl11,HG11⟩:=Kd.R_form HO107.out o_m;(first | cases eo11 | (injection eo11 with ea_ en_ ec_;(first | subst ea_ | (injection ea_ with ea_;subst ea_));subst ec_;clear en_));have GB11:=am gb11;have GG11:=am HG11;clear gb11 gl11 HG11;obtain ⟨hx11_0,hf11_0⟩:=Kd.R_celln false HO107.out (x14_1:Int) p11 q11;replace p11:=eq_true p11;replace q11:=eq_true q11;obtain ⟨hy17_,hz17_⟩:=Kd.R_celln false HO107.out (x14_1:Int) (of_decide_eq_true aq4) (of_decide_eq_true aq4);have HP17:=Kd.R_putg HO107.out (x14_1:Int) true) | ((with_reducible refine gate_store (t:=4) (p:=25) rfl ?_);(try (rw [drewN_self w15];generalize hq_:World.drewN w15 _ = w15;have n0_:=am (Kd.S_at hq_ HO_3.out);have n1_:=am (Kd.R_at hq_ HO107.out);have n2_:=am (Kd.R_at hq_ HO110.out);have n3_:=am (blk_at hq_ BK101.out);have n4_:=am (below_at hq_ HB.out);clear hq_ HO_3 HO107 HO110 BK101 HB;have HO_3:=n0_;have HO107:=n1_;have HO110:=n2_;have BK101:=n3_;have HB:=n4_;clear n0_ n1_ n2_ n3_ n4_;(try (obtain ⟨hy17_,hz17_⟩:=Kd.R_celln false HO107.out (x14_1:Int) (of_decide_eq_true aq4) (of_decide_eq_true aq4)));(try (have HP17:=Kd.R_putg HO107.out (x14_1:Int) true))));refine store_event (t:=4) (p:=25) (v:=?vo_w18) (w1:=(w15.setCell ⟨go11,(x14_1:Int).toNat,none⟩ (.bool true))) ?hg ?ho ?hn ?hr ?_;(case ho=>rfl);(case hg=>rfl);(case hn=>rfl);(case hr=>exact aq12);intro w18 hw;have hg:w15.grownBy w18 (some go11):=(by rw [hw];exact HP17.2);have hp_:Kd.R Kd.bool 4 w18 w.heap.size (fun _=>True) (.slice (some ⟨go11,0,none⟩) y105.length co11) y111:=(by rw [hw,Ny111.out];exact HP17.1);clear HP17;replace HO_3:=am (Kd.S_after (v:=(.slice (some ⟨go11,0,none⟩) y105.length co11)) (v1:=(.slice (some ⟨go11,0,none⟩) y105.length co11)) (ok:=(fun _=>True)) aq15 hg (.inl rfl));replace BK101:=am (bg BK101 hg (Kd.R_ne HO107.out BK101.out d_c));replace HO110:=am (Kd.R_over' (v:=(.slice (some ⟨go11,0,none⟩) y105.length co11)) aq29 (Kd.R_typed HO107.out) d_c hg);replace HO107:=am (hp_);replace HB:=am ((by rw [hw];exact below_set (HB.out) GB11.out:Below w.heap.size w w18));clear hg hw hp_));try go_wp2_with (first | ((with_reducible refine gate_dst (N:=20) rfl ?_);refine Kd.R_make Kd.bool _ 4 rfl (N:=20) rfl 81 _ _ rfl (l0_0.length:Int) rfl rfl Tryz.underlying81 (.bool false) 1 info4 rfl d_c o_m false (ok:=fun _=>True) (okp:=fun _=>True) rfl (fun _ hk=>hk) trivial (of_decide_eq_true aq4) (Nat.le_trans (Nat.mul_le_mul_right _ (of_decide_eq_true aq4:(l0_0.length:Int).toNat ≤ 281474976710656)) o_m) (Below.refl _ _) (Nat.le_refl _) ?_;intro v106 w13 ho14 hb hg_ hnew_;clear hg_ hnew_;(first | rw [← Ny105.out] at ho14 | (simp only [Int.reduceToNat] at ho14;rw [← Ny105.out] at ho14));replace HO_3:=am (Kd.S_elder' aq15 (Kd.R_base ho14) hb);have HO107:=am (Kd.R_lower ho14 (below_size aq0));replace BK101:=am (bb BK101 hb);replace HB:=am (below_step aq0 hb);clear hb ho14) | ((with_reducible refine gate_dst (N:=22) rfl ?_);refine Kd.R_lit (Kd.int .i64) _ 3 ?hg (N:=22) ?hd (xs:=([x14_1]:List Int)) (inner:=[.int .i64 x14_1]) (ok:=fun _=>True) (okp:=fun _=>True) ?hr ?hp (fun _ hk=>hk) trivial (Below.refl _ _) (Nat.le_refl _) (by simp) ?_;(case hd=>rfl);(case hg=>rfl);(case hr=>exact aq12);(case hp=>exact aq66);intro v109 w15 ho16 hb hg_ hnew_;clear hg_ hnew_;(first | rw [← Ny108.out] at ho16 | (simp only [Int.reduceToNat] at ho16;rw [← Ny108.out] at ho16));replace HO_3:=am (Kd.S_below aq15 hb);replace HO107:=am (Kd.R_below aq36 hb);have HO110:=am (Kd.R_lower ho16 (below_size aq0));replace BK101:=am (bb BK101 hb);replace HB:=am (below_step aq0 hb);clear hb ho16;have p11:0 ≤ (x14_1:Int):=of_decide_eq_true aq4;have q11:(x14_1:Int) < ((y105.length:Int):Int):=of_decide_eq_true aq4;obtain ⟨go11,co11,eo11,gb11,gl11,cl11,HG11⟩:=Kd.R_form HO107.out o_m;(first | cases eo11 | (injection eo11 with ea_ en_ ec_;(first | subst ea_ | (injection ea_ with ea_;subst ea_));subst ec_;clear en_));have GB11:=am gb11;have GG11:=am HG11;clear gb11 gl11 HG11;obtain ⟨hx11_0,hf11_0⟩:=Kd.R_celln false HO107.out (x14_1:Int) p11 q11;replace p11:=eq_true p11;replace q11:=eq_true q11;obtain ⟨hy17_,hz17_⟩:=Kd.R_celln false HO107.out (x14_1:Int) (of_decide_eq_true aq4) (of_decide_eq_true aq4);have HP17:=Kd.R_putg HO107.out (x14_1:Int) true) | ((with_reducible refine gate_store (t:=4) (p:=25) rfl ?_);(try (rw [drewN_self w15];generalize hq_:World.drewN w15 _ = w15;have n0_:=am (Kd.S_at hq_ HO_3.out);have n1_:=am (Kd.R_at hq_ HO107.out);have n2_:=am (Kd.R_at hq_ HO110.out);have n3_:=am (blk_at hq_ BK101.out);have n4_:=am (below_at hq_ HB.out);clear hq_ HO_3 HO107 HO110 BK101 HB;have HO_3:=n0_;have HO107:=n1_;have HO110:=n2_;have BK101:=n3_;have HB:=n4_;clear n0_ n1_ n2_ n3_ n4_;(try (obtain ⟨hy17_,hz17_⟩:=Kd.R_celln false HO107.out (x14_1:Int) (of_decide_eq_true aq4) (of_decide_eq_true aq4)));(try (have HP17:=Kd.R_putg HO107.out (x14_1:Int) true))));refine store_event (t:=4) (p:=25) (v:=?vo_w18) (w1:=(w15.setCell ⟨go11,(x14_1:Int).toNat,none⟩ (.bool true))) ?hg ?ho ?hn ?hr ?_;(case ho=>rfl);(case hg=>rfl);(case hn=>rfl);(case hr=>exact aq12);intro w18 hw;have hg:w15.grownBy w18 (some go11):=(by rw [hw];exact HP17.2);have hp_:Kd.R Kd.bool 4 w18 w.heap.size (fun _=>True) (.slice (some ⟨go11,0,none⟩) y105.length co11) y111:=(by rw [hw,Ny111.out];exact HP17.1);clear HP17;replace HO_3:=am (Kd.S_after (v:=(.slice (some ⟨go11,0,none⟩) y105.length co11)) (v1:=(.slice (some ⟨go11,0,none⟩) y105.length co11)) (ok:=(fun _=>True)) aq15 hg (.inl rfl));replace BK101:=am (bg BK101 hg (Kd.R_ne HO107.out BK101.out d_c));replace HO110:=am (Kd.R_over' (v:=(.slice (some ⟨go11,0,none⟩) y105.length co11)) aq29 (Kd.R_typed HO107.out) d_c hg);replace HO107:=am (hp_);replace HB:=am ((by rw [hw];exact below_set (HB.out) GB11.out:Below w.heap.size w w18));clear hg hw hp_)))
   go_loopg [6,7] k1 (fun kq v6 v7 w'=>∃ (x5_2:List Bool) (x6_2:List Int) (x7_2:Int),v7 = .int .i64 x7_2 ∧ Aside0 (impl_reach_reaching.l1 kq x3_1 x5_2 x6_2 x7_2 (l0_0.length:Int) x14_1 l0_0 l0_1 l0_2 l0_3 = some r) ∧ Aside0 (kq ≤ k1) ∧ Aside0 (Kd.S (Kd.slice 4 Kd.bool) 81 w' w.heap.size (fun k_=>some k_ ≠ ((.slice (some ⟨go11,0,none⟩) y105.length co11):Value).ownBlock) u3 x3_1) ∧ Aside0 (Kd.R Kd.bool 4 w' w.heap.size (fun _=>True) (.slice (some ⟨go11,0,none⟩) y105.length co11) x5_2) ∧ Aside0 (Kd.R (Kd.int .i64) 3 w' w.heap.size (fun _=>True) v6 x6_2) ∧ Aside0 (w'.heap[gb101]? = some (.cells #[(.slice A0_0 l0_0.length c0_0),(.slice A0_1 l0_1.length c0_1),(.slice A0_2 l0_2.length c0_2),(.slice A0_3 l0_3.length c0_3)] 59 (0,0))) ∧ Aside0 (Below w.heap.size w w'))
   case atStart=>exact ⟨(y111),(y108),(0),aq6,H',⟨Nat.le_refl _⟩,⟨by (with_reducible repeat (first | apply Kd.S_alloc | apply Kd.S_drewN | apply Kd.S_drew));exact Kd.S_mono HO_3.out (fun _ hk=>hk.2)⟩,⟨aq36⟩,⟨aq29⟩,⟨aq2⟩,⟨aq0⟩⟩
   case round =>
    clear H'
    try clear c1
    try clear p1
    try clear q1
    try clear hx1
    try clear hf1
    try clear p2
    try clear c6
    try clear c6b0
    try clear c7
    try clear c7b0
    try clear c7b1
    try clear c8
    try clear c8b0
    try clear c8b1
    try clear c9
    try clear c9b0
    try clear c10
    try clear c10b0
    try clear p11
    try clear q11
    try clear hx11
    try clear hf11
    try clear hcz12_0
    try clear hcz12_1
    try clear hcz12_2
    try clear hcz12_3
    try clear hcz5_0
    try clear hcz5_1
    try clear hcz5_2
    try clear hcz5_3
    try clear hfz12_0
    try clear hfz12_1
    try clear hfz12_2
    try clear hfz12_3
    try clear hfz5_0
    try clear hfz5_1
    try clear hfz5_2
    try clear hfz5_3
    try clear hx11_0
    try clear p11
    try clear p2
    try clear q11
    obtain ⟨x5_2,x6_2,x7_2,rfl,HA,HK2,HO_3,HO_5,HO_6,BK101,HB⟩:=hrel
    have hl5_2:=(Kd.R_reads' HO_5.out).1
    rw [hl5_2] at HO_5
    (try simp only [hl5_2])
    (try simp only [hl5_2] at BK101)
    (try simp only [hl5_2] at HO_3)
    (try simp only [hl5_2] at HO_6)
    cases gk with
    | zero=>exact absurd HA.out (by simp [impl_reach_reaching.l1])
    | succ k2 =>
     have H:=HA.out
     clear HA
     simp only [impl_reach_reaching.l1] at H
     by_cases c19:x7_2 < (x6_2.length:Int)
     rotate_left
     ·rw [if_neg c19] at H
      have c19b0:=decide_eq_false c19
      clear c19
      replace H:=gd H
      obtain ⟨c37,H⟩:=H
      have LMc37:=am c37
      clear c37
      obtain ⟨y112,hy_⟩:∃ y_:List (List Bool),y_ = (x3_1 ++ [x5_2]):=⟨_,rfl⟩
      replace H:(impl_reach_reaching.l0 k2 y112 (l0_0.length:Int) (wrap64 (x14_1 + 1)) l0_0 l0_1 l0_2 l0_3) = some r:=aq3
      have Ny112:=am hy_
      clear hy_
      have H':=am H
      clear H
      obtain ⟨Ao38,co38,eo38⟩:=Kd.R_slice HO_6.out
      subst eo38
      go_wp2_with (first | ((with_reducible refine gate_builtin (b:=.append) (xs:=#[.tmp 58,.tmp 60]) rfl ?_);at_builtin;refine Kd.S_append (Kd.slice 4 Kd.bool) (w0:=w) w.heap.size rfl (.tmp 58) (.tmp 60) 100 81 (.slice none 0 0) 24 rfl Tryz.underlying100 info81 rfl d_c o_m u3 x3_1 x5_2 [.slice (some ⟨go11,0,none⟩) x5_2.length co11] (fun _=>True) (fun k_=>some k_ = (.slice (some ⟨go11,0,none⟩) x5_2.length co11:Value).ownBlock) rfl rfl ?aP (fun k_ hk_=>((Kd.R_mono (ok':=fun k_=>((fun _=>True)) k_ ∧ some k_ ≠ (u3:Value).ownBlock) (Kd.R_apart' (HO_5.out) (Kd.S_typed HO_3.out) d_c) (fun k_ hk=>⟨trivial,hk.2⟩))).1 k_ hk_.symm) ?aF ?aO ?aB ?aS ?aL ?_;(case aP=>exact aq34);(case aB=>exact aq0);(case aF=>exact aq50);(case aO=>exact aq47);(case aS=>exact aq51);(case aL=>have:=LMc37.out;omega);intro v113 w39 ho hb hg hat;rw [← Ny112.out] at ho;replace HO_6:=am (Kd.R_over' aq17 (Kd.S_typed aq15) d_c hg);replace BK101:=am (bg BK101 hg (Kd.S_ne HO_3.out BK101.out d_c));replace HB:=am (hb);have HO114:=am (ho);clear HO_3 HO_5 ho hb hg hat))
      repeat (go_quiet (first | ((with_reducible refine gate_builtin (b:=.append) (xs:=#[.tmp 58,.tmp 60]) rfl ?_);at_builtin;refine Kd.S_append (Kd.slice 4 Kd.bool) (w0:=w) w.heap.size rfl (.tmp 58) (.tmp 60) 100 81 (.slice none 0 0) 24 rfl Tryz.underlying100 info81 rfl d_c o_m u3 x3_1 x5_2 [.slice (some ⟨go11,0,none⟩) x5_2.length co11] (fun _=>True) (fun k_=>some k_ = (.slice (some ⟨go11,0,none⟩) x5_2.length co11:Value).ownBlock) rfl rfl ?aP (fun k_ hk_=>((Kd.R_mono (ok':=fun k_=>((fun _=>True)) k_ ∧ some k_ ≠ (u3:Value).ownBlock) (Kd.R_apart' (HO_5.out) (Kd.S_typed HO_3.out) d_c) (fun k_ hk=>⟨trivial,hk.2⟩))).1 k_ hk_.symm) ?aF ?aO ?aB ?aS ?aL ?_;(case aP=>exact aq34);(case aB=>exact aq0);(case aF=>exact aq50);(case aO=>exact aq47);(case aS=>exact aq51);(case aL=>have:=LMc37.out;omega);intro v113 w39 ho hb hg hat;rw [← Ny112.out] at ho;replace HO_6:=am (Kd.R_over' aq17 (Kd.S_typed aq15) d_c hg);replace BK101:=am (bg BK101 hg (Kd.S_ne HO_3.out BK101.out d_c));replace HB:=am (hb);have HO114:=am (ho);clear HO_3 HO_5 ho hb hg hat));try go_wp2_with (first | ((with_reducible refine gate_builtin (b:=.append) (xs:=#[.tmp 58,.tmp 60]) rfl ?_);at_builtin;refine Kd.S_append (Kd.slice 4 Kd.bool) (w0:=w) w.heap.size rfl (.tmp 58) (.tmp 60) 100 81 (.slice none 0 0) 24 rfl Tryz.underlying100 info81 rfl d_c o_m u3 x3_1 x5_2 [.slice (some ⟨go11,0,none⟩) x5_2.length co11] (fun _=>True) (fun k_=>some k_ = (.slice (some ⟨go11,0,none⟩) x5_2.length co11:Value).ownBlock) rfl rfl ?aP (fun k_ hk_=>((Kd.R_mono (ok':=fun k_=>((fun _=>True)) k_ ∧ some k_ ≠ (u3:Value).ownBlock) (Kd.R_apart' (HO_5.out) (Kd.S_typed HO_3.out) d_c) (fun k_ hk=>⟨trivial,hk.2⟩))).1 k_ hk_.symm) ?aF ?aO ?aB ?aS ?aL ?_;(case aP=>exact aq34);(case aB=>exact aq0);(case aF=>exact aq50);(case aO=>exact aq47);(case aS=>exact aq51);(case aL=>have:=LMc37.out;omega);intro v113 w39 ho hb hg hat;rw [← Ny112.out] at ho;replace HO_6:=am (Kd.R_over' aq17 (Kd.S_typed aq15) d_c hg);replace BK101:=am (bg BK101 hg (Kd.S_ne HO_3.out BK101.out d_c));replace HB:=am (hb);have HO114:=am (ho);clear HO_3 HO_5 ho hb hg hat)))
      (try simp only [← hl5_2])
      go_roundg k2
      case measure=>have:=HK1.out;have:=HK2.out;omega
      case rel=>exact ⟨(y112),(wrap64 (x14_1 + 1)),aq6,H',⟨aq43⟩,⟨by (try simp only [hl5_2]);(with_reducible repeat (first | apply Kd.S_alloc | apply Kd.S_drewN | apply Kd.S_drew));exact HO114.out⟩,⟨aq77⟩,⟨aq0⟩⟩
     rw [if_pos c19] at H
     have c19b0:=decide_eq_true c19
     clear c19
     replace H:=gd H
     obtain ⟨c20,H⟩:=H
     have c20b0:=decide_eq_true c20
     clear c20
     replace H:=gd H
     obtain ⟨c21,H⟩:=H
     have c21b0:=decide_eq_true c21
     clear c21
     replace H:=gd H
     obtain ⟨c22,H⟩:=H
     have c22b0:=decide_eq_true c22
     clear c22
     have H':=am H
     clear H
     obtain ⟨Ao23,co23,eo23⟩:=Kd.R_slice HO_6.out
     subst eo23
     obtain ⟨hcz24_0,hcz24_1,hcz24_2,hcz24_3,hfz24_0,hfz24_1,hfz24_2,hfz24_3⟩:=blk4_ BK101.out
     have p115:0 ≤ (x7_2:Int):=of_decide_eq_true aq4
     have q115:x7_2 < (x6_2.length:Int):=of_decide_eq_true aq4
     obtain ⟨ad115,e115,hx115_0⟩:=Kd.at_int (Kd.R_reads' HO_6.out).2.2 x7_2 p115 q115
     cases e115
     replace p115:=eq_true p115
     replace q115:=eq_true q115
     have p116:0 ≤ ((rd x6_2 x7_2):Int):=of_decide_eq_true aq4
     have q116:(rd x6_2 x7_2) < (l0_2.length:Int):=of_decide_eq_true aq4
     obtain ⟨ad116,A116_0,c116_0,e116,hx116_0,hl116_0,hi116_0⟩:=at_L3 HR0_2.out (rd x6_2 x7_2) p116 q116
     cases e116
     try replace hx116_0:=(HB.out.cell (World.block_lt_of_cell? w _ hx116_0)).trans hx116_0
     have HR116_0:=am hi116_0
     have HC116_0:=am hl116_0
     clear hi116_0 hl116_0
     replace p116:=eq_true p116
     replace q116:=eq_true q116
     go_wp2
     repeat (go_quiet (fail);try go_wp2)
     go_loopg [6,41] k2 (fun kq v6 v41 w'=>∃ (x5_3:List Bool) (x6_3:List Int) (x41_3:Int),v41 = .int .i64 x41_3 ∧ Aside0 (impl_reach_reaching.l2 kq x3_1 x5_3 x6_3 x7_2 (l0_0.length:Int) x14_1 (rd_L3 l0_2 (rd x6_2 x7_2)) ((rd_L3 l0_2 (rd x6_2 x7_2)).length:Int) x41_3 l0_0 l0_1 l0_2 l0_3 = some r) ∧ Aside0 (kq ≤ k2) ∧ Aside0 (Kd.S (Kd.slice 4 Kd.bool) 81 w' w.heap.size (fun k_=>some k_ ≠ ((.slice (some ⟨go11,0,none⟩) x5_2.length co11):Value).ownBlock) u3 x3_1) ∧ Aside0 (Kd.R Kd.bool 4 w' w.heap.size (fun _=>True) (.slice (some ⟨go11,0,none⟩) x5_2.length co11) x5_3) ∧ Aside0 (Kd.R (Kd.int .i64) 3 w' w.heap.size (fun _=>True) v6 x6_3) ∧ Aside0 (w'.heap[gb101]? = some (.cells #[(.slice A0_0 l0_0.length c0_0),(.slice A0_1 l0_1.length c0_1),(.slice (some ad116) l0_2.length c0_2),(.slice A0_3 l0_3.length c0_3)] 59 (0,0))) ∧ Aside0 (Below w.heap.size w w'))
     case atStart=>exact ⟨(x5_2),(x6_2),(0),aq6,H',⟨Nat.le_refl _⟩,⟨by (try simp only [hl5_2]);(with_reducible repeat (first | apply Kd.S_alloc | apply Kd.S_drewN | apply Kd.S_drew));exact HO_3.out⟩,⟨by (try simp only [hl5_2]);(with_reducible repeat (first | apply Kd.R_alloc | apply Kd.R_drewN | apply Kd.R_drew));exact HO_5.out⟩,⟨by (try simp only [hl5_2]);(with_reducible repeat (first | apply Kd.R_alloc | apply Kd.R_drewN | apply Kd.R_drew));exact HO_6.out⟩,⟨aq77⟩,⟨aq0⟩⟩
     case round =>
      clear H'
      try clear c1
      try clear p1
      try clear q1
      try clear hx1
      try clear hf1
      try clear c2
      try clear p2
      try clear c6
      try clear c6b0
      try clear c7
      try clear c7b0
      try clear c7b1
      try clear c8
      try clear c8b0
      try clear c8b1
      try clear c9
      try clear c9b0
      try clear c10
      try clear c10b0
      try clear c11
      try clear p11
      try clear q11
      try clear hx11
      try clear hf11
      try clear c19
      try clear c19b0
      try clear c20
      try clear c20b0
      try clear c21
      try clear c21b0
      try clear c22
      try clear c22b0
      try clear hcz12_0
      try clear hcz12_1
      try clear hcz12_2
      try clear hcz12_3
      try clear hcz24_0
      try clear hcz24_1
      try clear hcz24_2
      try clear hcz24_3
      try clear hcz5_0
      try clear hcz5_1
      try clear hcz5_2
      try clear hcz5_3
      try clear hfz12_0
      try clear hfz12_1
      try clear hfz12_2
      try clear hfz12_3
      try clear hfz24_0
      try clear hfz24_1
      try clear hfz24_2
      try clear hfz24_3
      try clear hfz5_0
      try clear hfz5_1
      try clear hfz5_2
      try clear hfz5_3
      try clear hx115_0
      try clear hx116_0
      try clear hx11_0
      try clear p1
      try clear p11
      try clear p115
      try clear p116
      try clear p2
      try clear q1
      try clear q11
      try clear q115
      try clear q116
      obtain ⟨x5_3,x6_3,x41_3,rfl,HA,HK3,HO_3,HO_5,HO_6,BK101,HB⟩:=hrel
      have hl5_3:=(Kd.R_reads' HO_5.out).1
      rw [hl5_3] at HO_5
      (try simp only [hl5_3])
      (try simp only [hl5_3] at BK101)
      (try simp only [hl5_3] at HO_3)
      (try simp only [hl5_3] at HO_6)
      cases gk with
      | zero=>exact absurd HA.out (by simp [impl_reach_reaching.l2])
      | succ k3 =>
       have H:=HA.out
       clear HA
       simp only [impl_reach_reaching.l2] at H
       by_cases c25:x41_3 < ((rd_L3 l0_2 (rd x6_2 x7_2)).length:Int)
       rotate_left
       ·rw [if_neg c25] at H
        have c25b0:=decide_eq_false c25
        clear c25
        have H':=am H
        clear H
        go_wp2
        repeat (go_quiet (fail);try go_wp2)
        (try simp only [← hl5_2,← hl5_3])
        go_roundg k3
        case measure=>have:=HK1.out;have:=HK2.out;have:=HK3.out;omega
        case rel=>exact ⟨(x5_3),(x6_3),(wrap64 (x7_2 + 1)),aq6,H',⟨by have:=HK1.out;have:=HK2.out;have:=HK3.out;omega⟩,⟨aq71⟩,⟨aq49⟩,⟨aq72⟩,⟨aq44⟩,⟨aq0⟩⟩
       rw [if_pos c25] at H
       have c25b0:=decide_eq_true c25
       clear c25
       replace H:=gd H
       obtain ⟨c26,H⟩:=H
       have c26b0:=decide_eq_true c26
       clear c26
       replace H:=gd H
       obtain ⟨c27,H⟩:=H
       have c27b0:=decide_eq_true c27
       clear c27
       replace H:=gd H
       obtain ⟨c28,H⟩:=H
       have c28b0:=decide_eq_true c28
       clear c28
       replace H:=gd H
       obtain ⟨c29,H⟩:=H
       have c29b0:=decide_eq_true c29
       clear c29
       obtain ⟨bq30,hbq30⟩:∃ b_:Bool,b_ = (rdOf false x5_3 (rd (rd_L3 l0_2 (rd x6_2 x7_2)) x41_3)):=⟨_,rfl⟩
       replace H:(if (bq30 = true) then (impl_reach_reaching.l2 k3 x3_1 x5_3 x6_3 x7_2 (l0_0.length:Int) x14_1 (rd_L3 l0_2 (rd x6_2 x7_2)) ((rd_L3 l0_2 (rd x6_2 x7_2)).length:Int) (wrap64 (x41_3 + 1)) l0_0 l0_1 l0_2 l0_3) else (if x6_3.length < 17592186044416 then (impl_reach_reaching.l2 k3 x3_1 (x5_3.set ((rd (rd_L3 l0_2 (rd x6_2 x7_2)) x41_3):Int).toNat true) (x6_3 ++ [rd (rd_L3 l0_2 (rd x6_2 x7_2)) x41_3]) x7_2 (l0_0.length:Int) x14_1 (rd_L3 l0_2 (rd x6_2 x7_2)) ((rd_L3 l0_2 (rd x6_2 x7_2)).length:Int) (wrap64 (x41_3 + 1)) l0_0 l0_1 l0_2 l0_3) else (none))) = some r:=by rw [← hbq30] at H;exact H
       have Nbq30:=am hbq30
       clear hbq30
       by_cases c31:(bq30 = true)
       ·subst c31
        rw [if_pos rfl] at H
        have H':=am H
        clear H
        have p117:0 ≤ (x41_3:Int):=of_decide_eq_true aq4
        have q117:x41_3 < ((rd_L3 l0_2 (rd x6_2 x7_2)).length:Int):=of_decide_eq_true aq4
        obtain ⟨ad117,e117,hx117_0⟩:=Kd.at_int HR116_0.out x41_3 p117 q117
        cases e117
        try replace hx117_0:=(HB.out.cell (World.block_lt_of_cell? w _ hx117_0)).trans hx117_0
        replace p117:=eq_true p117
        replace q117:=eq_true q117
        have p118:0 ≤ ((rd (rd_L3 l0_2 (rd x6_2 x7_2)) x41_3):Int):=of_decide_eq_true aq4
        have q118:(rd (rd_L3 l0_2 (rd x6_2 x7_2)) x41_3) < (x5_3.length:Int):=of_decide_eq_true aq4
        obtain ⟨ad118,e118,hx118_0⟩:=Kd.at_bool (Kd.R_reads' HO_5.out).2.2 (rd (rd_L3 l0_2 (rd x6_2 x7_2)) x41_3) p118 q118
        (try rw [← Nbq30.out] at hx118_0)
        obtain rfl:(⟨go11,0,none⟩:Addr) = ad118:=(by injection e118)
        (first | simp only [add_plain] at hx118_0 | simp only [add_at] at hx118_0 | simp only [Addr.add,Nat.zero_add] at hx118_0 | skip)
        replace p118:=eq_true p118
        replace q118:=eq_true q118
        go_wp2
        repeat (go_quiet (fail);try go_wp2)
        (try simp only [← hl5_3])
        go_roundg k3
        case measure=>have:=HK1.out;have:=HK2.out;have:=HK3.out;omega
        case rel=>exact ⟨(x5_3),(x6_3),(wrap64 (x41_3 + 1)),aq6,H',⟨by have:=HK1.out;have:=HK2.out;have:=HK3.out;omega⟩,⟨aq71⟩,⟨aq49⟩,⟨aq72⟩,⟨aq44⟩,⟨aq0⟩⟩
       replace c31:=Bool.eq_false_iff.mpr c31
       subst c31
       rw [if_neg Bool.false_ne_true] at H
       obtain ⟨y119,hy_⟩:∃ y_:List Bool,y_ = (x5_3.set ((rd (rd_L3 l0_2 (rd x6_2 x7_2)) x41_3):Int).toNat true):=⟨_,rfl⟩
       replace H:(if x6_3.length < 17592186044416 then (impl_reach_reaching.l2 k3 x3_1 y119 (x6_3 ++ [rd (rd_L3 l0_2 (rd x6_2 x7_2)) x41_3]) x7_2 (l0_0.length:Int) x14_1 (rd_L3 l0_2 (rd x6_2 x7_2)) ((rd_L3 l0_2 (rd x6_2 x7_2)).length:Int) (wrap64 (x41_3 + 1)) l0_0 l0_1 l0_2 l0_3) else (none)) = some r:=aq3
       have Ny119:=am hy_
       clear hy_
       replace H:=gd H
       obtain ⟨c33,H⟩:=H
       have LMc33:=am c33
       clear c33
       obtain ⟨y120,hy_⟩:∃ y_:List Int,y_ = (x6_3 ++ [rd (rd_L3 l0_2 (rd x6_2 x7_2)) x41_3]):=⟨_,rfl⟩
       replace H:(impl_reach_reaching.l2 k3 x3_1 y119 y120 x7_2 (l0_0.length:Int) x14_1 (rd_L3 l0_2 (rd x6_2 x7_2)) ((rd_L3 l0_2 (rd x6_2 x7_2)).length:Int) (wrap64 (x41_3 + 1)) l0_0 l0_1 l0_2 l0_3) = some r:=aq3
       have Ny120:=am hy_
       clear hy_
       have H':=am H
       clear H
       have p117:0 ≤ (x41_3:Int):=of_decide_eq_true aq4
       have q117:x41_3 < ((rd_L3 l0_2 (rd x6_2 x7_2)).length:Int):=of_decide_eq_true aq4
       obtain ⟨ad117,e117,hx117_0⟩:=Kd.at_int HR116_0.out x41_3 p117 q117
       cases e117
       try replace hx117_0:=(HB.out.cell (World.block_lt_of_cell? w _ hx117_0)).trans hx117_0
       replace p117:=eq_true p117
       replace q117:=eq_true q117
       have p118:0 ≤ ((rd (rd_L3 l0_2 (rd x6_2 x7_2)) x41_3):Int):=of_decide_eq_true aq4
       have q118:(rd (rd_L3 l0_2 (rd x6_2 x7_2)) x41_3) < (x5_3.length:Int):=of_decide_eq_true aq4
       obtain ⟨ad118,e118,hx118_0⟩:=Kd.at_bool (Kd.R_reads' HO_5.out).2.2 (rd (rd_L3 l0_2 (rd x6_2 x7_2)) x41_3) p118 q118
       (try rw [← Nbq30.out] at hx118_0)
       obtain rfl:(⟨go11,0,none⟩:Addr) = ad118:=(by injection e118)
       (first | simp only [add_plain] at hx118_0 | simp only [add_at] at hx118_0 | simp only [Addr.add,Nat.zero_add] at hx118_0 | skip)
       replace p118:=eq_true p118
       replace q118:=eq_true q118
       have p32:0 ≤ ((rd (rd_L3 l0_2 (rd x6_2 x7_2)) x41_3):Int):=of_decide_eq_true aq4
       have q32:((rd (rd_L3 l0_2 (rd x6_2 x7_2)) x41_3):Int) < ((x5_3.length:Int):Int):=of_decide_eq_true aq4
       obtain ⟨hx32_0,hf32_0⟩:=Kd.R_celln false HO_5.out ((rd (rd_L3 l0_2 (rd x6_2 x7_2)) x41_3):Int) p32 q32
       replace p32:=eq_true p32
       replace q32:=eq_true q32
       have HP34:=Kd.R_putg HO_5.out ((rd (rd_L3 l0_2 (rd x6_2 x7_2)) x41_3):Int) true
       go_wp2_with (first | ((with_reducible refine gate_store (t:=4) (p:=52) rfl ?_);(try (rw [drewN_self wr];generalize hq_:World.drewN wr _ = wr;have n0_:=am (Kd.S_at hq_ HO_3.out);have n1_:=am (Kd.R_at hq_ HO_5.out);have n2_:=am (Kd.R_at hq_ HO_6.out);have n3_:=am (blk_at hq_ BK101.out);have n4_:=am (below_at hq_ HB.out);clear hq_ HO_3 HO_5 HO_6 BK101 HB;have HO_3:=n0_;have HO_5:=n1_;have HO_6:=n2_;have BK101:=n3_;have HB:=n4_;clear n0_ n1_ n2_ n3_ n4_;(try (have HP34:=Kd.R_putg HO_5.out ((rd (rd_L3 l0_2 (rd x6_2 x7_2)) x41_3):Int) true))));refine store_event (t:=4) (p:=52) (v:=?vo_w35) (w1:=(wr.setCell ⟨go11,((rd (rd_L3 l0_2 (rd x6_2 x7_2)) x41_3):Int).toNat,none⟩ (.bool true))) ?hg ?ho ?hn ?hr ?_;(case ho=>rfl);(case hg=>rfl);(case hn=>rfl);(case hr=>exact aq12);intro w35 hw;have hg:wr.grownBy w35 (some go11):=(by rw [hw];exact HP34.2);have hp_:Kd.R Kd.bool 4 w35 w.heap.size (fun _=>True) (.slice (some ⟨go11,0,none⟩) x5_3.length co11) y119:=(by rw [hw,Ny119.out];exact HP34.1);clear HP34;replace HO_3:=am (Kd.S_after (v:=(.slice (some ⟨go11,0,none⟩) x5_3.length co11)) (v1:=(.slice (some ⟨go11,0,none⟩) x5_3.length co11)) (ok:=(fun _=>True)) aq53 hg (.inl rfl));replace HO_6:=am (Kd.R_over' (v:=(.slice (some ⟨go11,0,none⟩) x5_3.length co11)) aq17 (Kd.R_typed HO_5.out) d_c hg);replace BK101:=am (bg BK101 hg (Kd.R_ne HO_5.out BK101.out d_c));replace HO_5:=am (hp_);replace HB:=am ((by rw [hw];exact below_set (HB.out) GB11.out:Below w.heap.size w w35));clear hg hw hp_) | ((with_reducible refine gate_builtin (b:=.append) (xs:=#[.tmp 53,.tmp 55]) rfl ?_);at_builtin;refine Kd.R_append (Kd.int .i64) (w0:=w) w.heap.size rfl (.tmp 53) (.tmp 55) 40 3 (.int .i64 0) 8 rfl Tryz.underlying40 info3 rfl d_c o_m u6 x6_3 (rd (rd_L3 l0_2 (rd x6_2 x7_2)) x41_3) [.int .i64 (rd (rd_L3 l0_2 (rd x6_2 x7_2)) x41_3)] (fun _=>True) (fun _=>False) rfl rfl ?aP (fun _ hk=>hk.elim) ?aF ?aO ?aB ?aS ?aL ?_;(case aP=>exact rfl);(case aB=>exact aq0);(case aF=>exact aq50);(case aO=>exact aq17);(case aS=>exact aq51);(case aL=>have:=LMc33.out;omega);intro v121 w36 ho hb hg hat;rw [← Ny120.out] at ho;replace HO_3:=am (Kd.S_over' aq15 (Kd.R_typed aq17) d_c hg);replace HO_5:=am (Kd.R_over' aq67 (Kd.R_typed aq17) d_c hg);replace BK101:=am (bg BK101 hg (Kd.R_ne HO_6.out BK101.out d_c));replace HB:=am (hb);have HO122:=am (ho);clear HO_6 ho hb hg hat))
       repeat (go_quiet (first | ((with_reducible refine gate_store (t:=4) (p:=52) rfl ?_);(try (rw [drewN_self wr];generalize hq_:World.drewN wr _ = wr;have n0_:=am (Kd.S_at hq_ HO_3.out);have n1_:=am (Kd.R_at hq_ HO_5.out);have n2_:=am (Kd.R_at hq_ HO_6.out);have n3_:=am (blk_at hq_ BK101.out);have n4_:=am (below_at hq_ HB.out);clear hq_ HO_3 HO_5 HO_6 BK101 HB;have HO_3:=n0_;have HO_5:=n1_;have HO_6:=n2_;have BK101:=n3_;have HB:=n4_;clear n0_ n1_ n2_ n3_ n4_;(try (have HP34:=Kd.R_putg HO_5.out ((rd (rd_L3 l0_2 (rd x6_2 x7_2)) x41_3):Int) true))));refine store_event (t:=4) (p:=52) (v:=?vo_w35) (w1:=(wr.setCell ⟨go11,((rd (rd_L3 l0_2 (rd x6_2 x7_2)) x41_3):Int).toNat,none⟩ (.bool true))) ?hg ?ho ?hn ?hr ?_;(case ho=>rfl);(case hg=>rfl);(case hn=>rfl);(case hr=>exact aq12);intro w35 hw;have hg:wr.grownBy w35 (some go11):=(by rw [hw];exact HP34.2);have hp_:Kd.R Kd.bool 4 w35 w.heap.size (fun _=>True) (.slice (some ⟨go11,0,none⟩) x5_3.length co11) y119:=(by rw [hw,Ny119.out];exact HP34.1);clear HP34;replace HO_3:=am (Kd.S_after (v:=(.slice (some ⟨go11,0,none⟩) x5_3.length co11)) (v1:=(.slice (some ⟨go11,0,none⟩) x5_3.length co11)) (ok:=(fun _=>True)) aq53 hg (.inl rfl));replace HO_6:=am (Kd.R_over' (v:=(.slice (some ⟨go11,0,none⟩) x5_3.length co11)) aq17 (Kd.R_typed HO_5.out) d_c hg);replace BK101:=am (bg BK101 hg (Kd.R_ne HO_5.out BK101.out d_c));replace HO_5:=am (hp_);replace HB:=am ((by rw [hw];exact below_set (HB.out) GB11.out:Below w.heap.size w w35));clear hg hw hp_) | ((with_reducible refine gate_builtin (b:=.append) (xs:=#[.tmp 53,.tmp 55]) rfl ?_);at_builtin;refine Kd.R_append (Kd.int .i64) (w0:=w) w.heap.size rfl (.tmp 53) (.tmp 55) 40 3 (.int .i64 0) 8 rfl Tryz.underlying40 info3 rfl d_c o_m u6 x6_3 (rd (rd_L3 l0_2 (rd x6_2 x7_2)) x41_3) [.int .i64 (rd (rd_L3 l0_2 (rd x6_2 x7_2)) x41_3)] (fun _=>True) (fun _=>False) rfl rfl ?aP (fun _ hk=>hk.elim) ?aF ?aO ?aB ?aS ?aL ?_;(case aP=>exact rfl);(case aB=>exact aq0);(case aF=>exact aq50);(case aO=>exact aq17);(case aS=>exact aq51);(case aL=>have:=LMc33.out;omega);intro v121 w36 ho hb hg hat;rw [← Ny120.out] at ho;replace HO_3:=am (Kd.S_over' aq15 (Kd.R_typed aq17) d_c hg);replace HO_5:=am (Kd.R_over' aq67 (Kd.R_typed aq17) d_c hg);replace BK101:=am (bg BK101 hg (Kd.R_ne HO_6.out BK101.out d_c));replace HB:=am (hb);have HO122:=am (ho);clear HO_6 ho hb hg hat));try go_wp2_with (first | ((with_reducible refine gate_store (t:=4) (p:=52) rfl ?_);(try (rw [drewN_self wr];generalize hq_:World.drewN wr _ = wr;have n0_:=am (Kd.S_at hq_ HO_3.out);have n1_:=am (Kd.R_at hq_ HO_5.out);have n2_:=am (Kd.R_at hq_ HO_6.out);have n3_:=am (blk_at hq_ BK101.out);have n4_:=am (below_at hq_ HB.out);clear hq_ HO_3 HO_5 HO_6 BK101 HB;have HO_3:=n0_;have HO_5:=n1_;have HO_6:=n2_;have BK101:=n3_;have HB:=n4_;clear n0_ n1_ n2_ n3_ n4_;(try (have HP34:=Kd.R_putg HO_5.out ((rd (rd_L3 l0_2 (rd x6_2 x7_2)) x41_3):Int) true))));refine store_event (t:=4) (p:=52) (v:=?vo_w35) (w1:=(wr.setCell ⟨go11,((rd (rd_L3 l0_2 (rd x6_2 x7_2)) x41_3):Int).toNat,none⟩ (.bool true))) ?hg ?ho ?hn ?hr ?_;(case ho=>rfl);(case hg=>rfl);(case hn=>rfl);(case hr=>exact aq12);intro w35 hw;have hg:wr.grownBy w35 (some go11):=(by rw [hw];exact HP34.2);have hp_:Kd.R Kd.bool 4 w35 w.heap.size (fun _=>True) (.slice (some ⟨go11,0,none⟩) x5_3.length co11) y119:=(by rw [hw,Ny119.out];exact HP34.1);clear HP34;replace HO_3:=am (Kd.S_after (v:=(.slice (some ⟨go11,0,none⟩) x5_3.length co11)) (v1:=(.slice (some ⟨go11,0,none⟩) x5_3.length co11)) (ok:=(fun _=>True)) aq53 hg (.inl rfl));replace HO_6:=am (Kd.R_over' (v:=(.slice (some ⟨go11,0,none⟩) x5_3.length co11)) aq17 (Kd.R_typed HO_5.out) d_c hg);replace BK101:=am (bg BK101 hg (Kd.R_ne HO_5.out BK101.out d_c));replace HO_5:=am (hp_);replace HB:=am ((by rw [hw];exact below_set (HB.out) GB11.out:Below w.heap.size w w35));clear hg hw hp_) | ((with_reducible refine gate_builtin (b:=.append) (xs:=#[.tmp 53,.tmp 55]) rfl ?_);at_builtin;refine Kd.R_append (Kd.int .i64) (w0:=w) w.heap.size rfl (.tmp 53) (.tmp 55) 40 3 (.int .i64 0) 8 rfl Tryz.underlying40 info3 rfl d_c o_m u6 x6_3 (rd (rd_L3 l0_2 (rd x6_2 x7_2)) x41_3) [.int .i64 (rd (rd_L3 l0_2 (rd x6_2 x7_2)) x41_3)] (fun _=>True) (fun _=>False) rfl rfl ?aP (fun _ hk=>hk.elim) ?aF ?aO ?aB ?aS ?aL ?_;(case aP=>exact rfl);(case aB=>exact aq0);(case aF=>exact aq50);(case aO=>exact aq17);(case aS=>exact aq51);(case aL=>have:=LMc33.out;omega);intro v121 w36 ho hb hg hat;rw [← Ny120.out] at ho;replace HO_3:=am (Kd.S_over' aq15 (Kd.R_typed aq17) d_c hg);replace HO_5:=am (Kd.R_over' aq67 (Kd.R_typed aq17) d_c hg);replace BK101:=am (bg BK101 hg (Kd.R_ne HO_6.out BK101.out d_c));replace HB:=am (hb);have HO122:=am (ho);clear HO_6 ho hb hg hat)))
       (try simp only [← hl5_3])
       go_roundg k3
       case measure=>have:=HK1.out;have:=HK2.out;have:=HK3.out;omega
       case rel=>exact ⟨(y119),(y120),(wrap64 (x41_3 + 1)),aq6,H',⟨by have:=HK1.out;have:=HK2.out;have:=HK3.out;omega⟩,⟨by (try simp only [hl5_2]);(try simp only [hl5_3]);(with_reducible repeat (first | apply Kd.S_alloc | apply Kd.S_drewN | apply Kd.S_drew));exact Kd.S_mono HO_3.out (fun _ hk=>hk.2)⟩,⟨aq49⟩,⟨by (try simp only [hl5_2]);(try simp only [hl5_3]);(with_reducible repeat (first | apply Kd.R_alloc | apply Kd.R_drewN | apply Kd.R_drew));exact HO122.out⟩,⟨aq44⟩,⟨aq0⟩⟩
end Go.Proofs.YtldhkbiomingbaaGreatDoor.F

namespace Go.Proofs.YtldhkbiomingbaaGreatDoor.F
open Go.Proofs.YtldhkbiomingbaaGreatDoor
open Go.RowKit Go.YW.PrintWords Go.YW.PrintMore
section
variable {N:List (List Nat)} {n i:Nat} {TT:List ByteArray} {FF:List Int} {WW:List ByteArray}
theorem rdL3_casts (N:List (List Nat)) {j:Nat} (h:j < N.length):rd_L3 (N.map castsI) (j:Int) = castsI (N.getD j []):=by
 unfold rd_L3
 rw [Int.toNat_natCast,List.getD_eq_getElem?_getD,List.getElem?_map,List.getElem?_eq_getElem h,getD_lt h];rfl
theorem casts_app (l:List Nat) (a:Nat):castsI l ++ [(a:Int)] = castsI (l ++ [a]):=by
 unfold castsI
 rw [List.map_append];rfl
theorem reach_l2 (hn:n ≤ 300) {jx:Nat} (hw:Way N i jx) {l:List Nat} (hl:∀ a ∈ l,a < n ∧ a ∈ N.getD jx []) (hl4:l.length ≤ 4) {r:List (List Bool)} (out:List (List Bool)) (x7 x13:Int) (x14:Int) :
  ∀ (d j:Nat) (st:List Bool × List Nat),j + d = l.length → CloOk N n i st →
  (∀ st',st' = seeB (l.drop j) st → Ev (fun k=>impl_reach_reaching.l1 k out st'.1 (castsI st'.2) (wrap64 (x7 + 1)) x13 x14 TT FF (N.map castsI) WW) r) →
  Ev (fun k=>impl_reach_reaching.l2 k out st.1 (castsI st.2) x7 x13 x14 (castsI l) ((castsI l).length:Int) (j:Int) TT FF (N.map castsI) WW) r
 | 0,j,st,hj,o,h=>by
  rw [List.drop_of_length_le o_m] at h
  refine Ev.step (fun k=>?_) (h st rfl)
  rw [impl_reach_reaching.l2,if_neg (by rw [castsI_length];omega)]
 | d + 1,j,st,hj,o,h=>by
  have hlt:j < l.length:=by omega
  obtain ⟨a,ha⟩:∃ a,l[j]'hlt = a:=⟨_,rfl⟩
  have ham:=hl a (ha ▸ List.getElem_mem hlt)
  have hrd:rd (castsI l) (j:Int) = ((a:Nat):Int):=by rw [rd_casts hlt,getD_lt hlt,ha]
  have hdrop:=seeB_drop l st hlt
  rw [ha] at hdrop
  have f1:(j:Int) < ((castsI l).length:Int):=by rw [castsI_length];omega
  have f2:(0:Int) ≤ (j:Int):=by omega
  have f3:(0:Int) ≤ ((a:Nat):Int):=by omega
  have f4:((a:Nat):Int) < (st.1.length:Int):=by rw [o.len];have:=ham.1;omega
  have f5:(castsI st.2).length < 17592186044416:=by rw [castsI_length];have:=nodup_le o.dup o.low;omega
  have hW:wrap64 ((j:Int) + 1) = ((j + 1:Nat):Int):=w64t (n:=j + 1) o_m
  cases hb:st.1.getD a false with
  | true =>
   rw [if_pos hb] at hdrop
   have ih:=reach_l2 hn hw hl hl4 out x7 x13 x14 d (j + 1) st o_m o (fun st' e=>h st' (by rw [hdrop];exact e))
   refine Ev.step (fun k=>?_) ih
   rw [impl_reach_reaching.l2,if_pos f1,if_pos f2,if_pos f1,hrd,if_pos f3,if_pos f4,rd_bool,if_pos hb,hW]
  | false =>
   rw [if_neg (by rw [hb];exact Bool.false_ne_true)] at hdrop
   have o2:=o.one ham.1 (Way.step hw ham.2) hb
   have ih:=reach_l2 hn hw hl hl4 out x7 x13 x14 d (j + 1) (st.1.set a true,st.2 ++ [a]) o_m o2 (fun st' e=>h st' (by rw [hdrop];exact e))
   refine Ev.step (fun k=>?_) ih
   rw [impl_reach_reaching.l2,if_pos f1,if_pos f2,if_pos f1,hrd,if_pos f3,if_pos f4,rd_bool,if_neg (by rw [hb];exact Bool.false_ne_true),if_pos f5,hW,Int.toNat_natCast,casts_app]
theorem reach_l1 (hn:n ≤ 300) (hNl:N.length = n) (hN:∀ l ∈ N,l.length = 4 ∧ ∀ a ∈ l,a < n) {r:List (List Bool)} (out:List (List Bool)) (ho:out.length ≤ 300) (x13 x14:Int) :
  ∀ (f k0:Nat) (st:List Bool × List Nat),CloOk N n i st → k0 ≤ st.2.length → n + 1 ≤ f + k0 →
  Ev (fun k=>impl_reach_reaching.l0 k (out ++ [(cloB N f k0 st).1]) x13 (wrap64 (x14 + 1)) TT FF (N.map castsI) WW) r →
  Ev (fun k=>impl_reach_reaching.l1 k out st.1 (castsI st.2) (k0:Int) x13 x14 TT FF (N.map castsI) WW) r
 | 0,k0,st,o,hk,hf,h=>by
  have:=nodup_le o.dup o.low
  omega
 | f + 1,k0,st,o,hk,hf,h=>by
  have hle:=nodup_le o.dup o.low
  unfold cloB at h
  by_cases hlt:k0 < st.2.length
  rotate_left
  ·rw [if_neg hlt] at h
   have f1:¬ (k0:Int) < ((castsI st.2).length:Int):=by rw [castsI_length];omega
   refine Ev.step (fun k=>?_) h
   rw [impl_reach_reaching.l1,if_neg f1,if_pos o_m]
  rw [if_pos hlt] at h
  obtain ⟨jx,hjx⟩:∃ j,st.2.getD k0 0 = j:=⟨_,rfl⟩
  have hjm:jx ∈ st.2:=by rw [← hjx];exact getD_mem hlt
  have hjn:jx < n:=o.low _ hjm
  have hwj:=o.way _ hjm
  rw [hjx] at h
  have hrow:=getD_mem (l:=N) (d:=([]:List Nat)) (i:=jx) (by rw [hNl];exact hjn)
  obtain ⟨h4,hla⟩:=hN _ hrow
  have hl:∀ a ∈ N.getD jx [],a < n ∧ a ∈ N.getD jx []:=fun a ha=>⟨hla a ha,ha⟩
  obtain ⟨o3,hp3,_⟩:=seeB_ok hwj (N.getD jx []) hl st o
  have hW:wrap64 ((k0:Int) + 1) = ((k0 + 1:Nat):Int):=w64t (n:=k0 + 1) o_m
  have hrd:rd (castsI st.2) (k0:Int) = ((jx:Nat):Int):=by rw [rd_casts hlt,hjx]
  have f1:(k0:Int) < ((castsI st.2).length:Int):=by rw [castsI_length];omega
  have f2:(0:Int) ≤ (k0:Int):=by omega
  have f3:(0:Int) ≤ ((jx:Nat):Int):=by omega
  have f4:((jx:Nat):Int) < ((N.map castsI).length:Int):=by rw [List.length_map,hNl];omega
  have h2:=reach_l2 (TT:=TT) (FF:=FF) (WW:=WW) (r:=r) hn hwj hl o_m out (k0:Int) x13 x14 (N.getD jx []).length 0 st o_m o (fun st' e=>by
   rw [List.drop_zero] at e
   subst e
   rw [hW]
   exact reach_l1 hn hNl hN out ho x13 x14 f (k0 + 1) _ o3 (Nat.le_trans hlt hp3.length_le) o_m h)
  refine Ev.step (fun k=>?_) h2
  rw [impl_reach_reaching.l1,if_pos f1,if_pos f2,hrd,if_pos f3,if_pos f4,rdL3_casts N (by rw [hNl];exact hjn)];rfl
theorem reach_l0 (hn:n ≤ 300) (hNl:N.length = n) (hN:∀ l ∈ N,l.length = 4 ∧ ∀ a ∈ l,a < n) (hT:TT.length = n) :
  ∀ (d i:Nat),i + d = n → Ev (fun k=>impl_reach_reaching.l0 k ((List.range i).map (fromB N n)) (n:Int) (i:Int) TT FF (N.map castsI) WW) ((List.range n).map (fromB N n))
 | 0,i,hi=>by
  obtain rfl:i = n:=by omega
  exact Ev.step (fun k=>by rw [impl_reach_reaching.l0,if_neg o_m]) (Ev.now _)
 | d + 1,i,hi=>by
  have hlt:i < n:=by omega
  have ih:=reach_l0 hn hNl hN hT d (i + 1) o_m
  have hW:wrap64 ((i:Int) + 1) = ((i + 1:Nat):Int):=w64t (n:=i + 1) o_m
  have o:CloOk N n i ((List.replicate n false).set i true,[i]):=by
   refine ⟨by rw [List.length_set,List.length_replicate],by simp,fun j=>?_,fun j hj=>?_,fun j hj=>?_,by simp⟩
   ·rw [List.mem_singleton,List.getD_eq_getElem?_getD,List.getElem?_set]
    by_cases e:i = j
    ·subst e;simp [hlt]
    rw [if_neg e]
    refine ⟨fun h=>absurd h ?_,fun h=>absurd h.symm e⟩
    rw [List.getElem?_replicate];split <;> simp
   ·rw [List.mem_singleton.1 hj];exact hlt
   ·rw [List.mem_singleton.1 hj];exact .here _
  have e1:(List.range (i + 1)).map (fromB N n) = (List.range i).map (fromB N n) ++ [(cloB N (n + 1) 0 ((List.replicate n false).set i true,[i])).1]:=by
   rw [List.range_succ,List.map_append];rfl
  rw [e1] at ih
  have h1:=reach_l1 (TT:=TT) (FF:=FF) (WW:=WW) hn hNl hN ((List.range i).map (fromB N n)) (by rw [List.length_map,List.length_range];omega) (n:Int) (i:Int) (n + 1) 0 _ o (Nat.zero_le _) o_m (by rw [hW];exact ih)
  have f1:(i:Int) < (n:Int):=by omega
  have f2:(0:Int) ≤ ((n:Nat):Int):=by omega
  have f3:n ≤ 281474976710656:=by omega
  have f4:(0:Int) ≤ (i:Int):=by omega
  refine Ev.step (fun k=>?_) h1
  rw [impl_reach_reaching.l0,if_pos f1,hT,if_pos f2,Int.toNat_natCast,if_pos f3,Option.bind_some,if_pos f4,List.length_replicate,if_pos f1,Int.toNat_natCast];rfl
end
theorem reaching_ev {w h:Nat} {cs:List Int} {s:RS} (o:RS.Ok2 w h cs s.T.length s) (FF:List Int) (WW:List ByteArray):Ev (fun k=>impl_reach_reaching.f k (rT w h s) FF (s.N.map castsI) WW) ((List.range s.T.length).map (fromB s.N s.T.length)):=by
 unfold impl_reach_reaching.f
 have h0:=reach_l0 (TT:=rT w h s) (FF:=FF) (WW:=WW) o.ok.most o.lN o.next (rT_len w h s) s.T.length 0 (Nat.zero_add _)
 rw [rT_len]
 exact h0
end Go.Proofs.YtldhkbiomingbaaGreatDoor.F

namespace Go.Proofs.YtldhkbiomingbaaGreatDoor.F
open Go.Proofs.YtldhkbiomingbaaGreatDoor
open Go.RowKit Go.YW.PrintWords Go.YW.PrintLast Go.YW.PrintMore Go.Lib
attribute [local go_sem] max2_int min2_int
def StateC (W:World) (b o i:Nat) (w h:Nat) (s:RS):Prop:=∃ p Ag cg Ax cx,W.cell? ⟨b,o + i,none⟩ = some (.pointer (some ⟨p,0,none⟩)) ∧
 W.cell? ⟨p,0,none⟩ = some (.int .i64 w) ∧ W.cell? ⟨p,1,none⟩ = some (.int .i64 h) ∧ W.cell? ⟨p,2,none⟩ = some (.slice Ag (s.T.getD i []).length cg) ∧ W.cell? ⟨p,3,none⟩ = some (.string (textB (w,h,s.T.getD i []))) ∧ W.cell? ⟨p,4,none⟩ = some (.int .i64 ((s.F.getD i 0:Nat):Int)) ∧
 W.cell? ⟨p,5,none⟩ = some (.int .i64 ((waysL s).getD i 0)) ∧ W.cell? ⟨p,8,none⟩ = some (.slice Ax (s.N.getD i []).length cx) ∧
 (s.T.getD i []).length ≤ cg ∧ (Kd.int .u8).C W Ag (s.T.getD i []).length (s.T.getD i []) ∧ (Kd.int .i64).C W Ax (s.N.getD i []).length (castsI (s.N.getD i [])) ∧ (s.T.getD i []).length ≤ 1000
theorem nodesOf_get {w h:Nat} {s:RS} {i:Nat} (hi:i < (nodesOf w h s).length):(nodesOf w h s)[i] = nodeF (txG w h) w h s (waysL s) [] i:=nodesL_get hi
theorem state_of {W:World} {b o i w h:Nat} {cs:List Int} {s:RS} (o2:RS.Ok2 w h cs s.T.length s) (hi:i < (nodesOf w h s).length) (hn:NodeC W b o i ((nodesOf w h s)[i]'hi)):StateC W b o i w h s:=by
 rw [nodesOf_get] at hn
 have hil:i < s.T.length:=by rw [nodesOf_len] at hi;exact hi
 obtain ⟨p,Ag,cg,Ax,cx,zp,z0,z1,z2,z3,z4,z5,z6,z7,z8,h1,h2,h3,h4⟩:=hn
 have hnx:(nodeF (txG w h) w h s (waysL s) [] i).next = castsI (s.N.getD i []):=by
  show castsI (if i < s.N.length then s.N.getD i [] else if i = s.N.length then [] else []) = _
  rw [if_pos (by rw [o2.lN];exact hil)]
 rw [hnx,castsI_length] at z8 h4
 have v:=o2.ok.tray _ (getD_mem (d:=([]:List Int)) hil)
 have hs:=(tray_small v).2
 exact ⟨p,Ag,cg,Ax,cx,zp,z0,z1,z2,z3,z4,z5,z8,h1,h2,h4,Nat.le_trans hs d_c⟩
theorem states_open {w1:World} {base:Nat} {v:Value} {w h:Nat} {cs:List Int} {s:RS} (o2:RS.Ok2 w h cs s.T.length s) (hR:Kd.R (ptrK 77 nodeK) 73 w1 base (fun _=>True) v (nodesOf w h s)) :
  ∃ b o c,v = .slice (some ⟨b,o,none⟩) s.T.length c ∧ s.T.length ≤ c ∧ ∀ W',Below w1.heap.size w1 W' → ∀ i,i < s.T.length → StateC W' b o i w h s:=by
 obtain ⟨b,o,c,e,hc,_,hat⟩:=nodes_open hR (nodesOf_ne o2.ok)
 rw [nodesOf_len] at e hc
 exact ⟨b,o,c,e,hc,fun W' hB i hi=>state_of o2 (by rw [nodesOf_len];exact hi) (hat W' hB i (by rw [nodesOf_len];exact hi))⟩
end Go.Proofs.YtldhkbiomingbaaGreatDoor.F

namespace Go.Proofs.YtldhkbiomingbaaGreatDoor.F
open Go.Proofs.YtldhkbiomingbaaGreatDoor
open Go.RowKit Go.YW.PrintWords Go.YW.PrintLast Go.YW.PrintMore Go.Lib
def spec_reAll.f (t:ByteArray):Option (List Node × Bool):=some (match srch t with | none=>([],false) | some q=>(nodesOf q.1 q.2.1 q.2.2,true))
theorem spec_reAll.calls (a0:ByteArray) (r1:List Node) (r2:Bool) (w:World) (h:spec_reAll.f a0 = some (r1,r2)) :
  Calls Tryz.prog 72 #[.string a0] w fun e w'=>∃ v0_:Value,e = .returned (.tuple #[v0_,.bool r2]) ∧ Kd.R (ptrK 77 nodeK) 73 w' w.heap.size (fun _=>True) v0_ r1 ∧ Below w.heap.size w w':=by
 have h':=Option.some.inj h
 have hb:(srch a0).isSome = r2:=by
  cases hs:srch a0 with
  | none=>rw [hs] at h';exact (Prod.mk.inj h').2
  | some q=>rw [hs] at h';exact (Prod.mk.inj h').2
 refine (reAll_calls a0 r2 hb w).mono ?_
 rintro e w' ⟨v,rfl,ha,hB⟩
 refine ⟨v,rfl,?_,hB⟩
 rcases ha with ⟨hn,rfl⟩ | ⟨gw,gh,s,hn,hR⟩
 ·rw [hn] at h'
  rw [← (Prod.mk.inj h').1]
  exact Kd.R_nil _ _ _ _ _
 ·rw [hn] at h'
  rw [← (Prod.mk.inj h').1]
  exact hR
end Go.Proofs.YtldhkbiomingbaaGreatDoor.F

namespace Go.Proofs.YtldhkbiomingbaaGreatDoor.F
open Go.Proofs.YtldhkbiomingbaaGreatDoor
open Go.RowKit Go.YW.PrintWords Go.YW.PrintLast Go.YW.PrintMore Go.Lib
attribute [local go_sem] max2_int min2_int

theorem seeB_len:∀ (l:List Nat) (st:List Bool × List Nat),(seeB l st).1.length = st.1.length
 | [],_=>rfl
 | a :: l,st=>by
  show (seeB l (if st.1.getD a false = true then st else (st.1.set a true,st.2 ++ [a]))).1.length = _
  rw [seeB_len l]
  split
  ·rfl
  ·rw [List.length_set]
theorem cloB_len (N:List (List Nat)):∀ (f k:Nat) (st:List Bool × List Nat),(cloB N f k st).1.length = st.1.length
 | 0,_,_=>rfl
 | f + 1,k,st=>by
  unfold cloB
  split
  ·rw [cloB_len N f,seeB_len]
  ·rfl
theorem fromB_len (N:List (List Nat)) (n i:Nat):(fromB N n i).length = n:=by
 unfold fromB
 rw [cloB_len,List.length_set,List.length_replicate]
def againL (s:RS) (k:Nat) (l:List Nat):Bool:=l.any fun a=>(fromB s.N s.T.length a).getD k false
def lastI (s:RS) (i:Nat):List Nat:=(List.range i).filter fun k=>againL s k (s.N.getD k [])
def lastT (w h:Nat) (s:RS) (i:Nat):List ByteArray:=(lastI s i).map fun k=>textB (w,h,s.T.getD k [])
end Go.Proofs.YtldhkbiomingbaaGreatDoor.F

namespace Go.Proofs.YtldhkbiomingbaaGreatDoor.F
open Go.Proofs.YtldhkbiomingbaaGreatDoor
open Go.RowKit Go.YW.PrintWords Go.YW.PrintLast Go.YW.PrintMore
theorem infoSS:(Tryz.prog.info? 35).map (fun i=>(i.zero,i.size,i.bytes)) = some (some (.slice none 0 0),1,24):=by kernel_rfl
def FromOk (ns:List Node) (i:Int):Prop:=ns.length < 65536 ∧ 0 ≤ i ∧ i < (ns.length:Int) ∧ ∀ n ∈ ns,n.next.length < 65536 ∧ ∀ a ∈ n.next,0 ≤ a ∧ a < (ns.length:Int)
instance (ns:List Node) (i:Int):Decidable (FromOk ns i):=by unfold FromOk;infer_instance
end Go.Proofs.YtldhkbiomingbaaGreatDoor.F

namespace Go.Proofs.YtldhkbiomingbaaGreatDoor.F
open Go.Proofs.YtldhkbiomingbaaGreatDoor
open Go.RowKit Go.YW.PrintWords Go.YW.PrintMore
def mutB (N:List (List Nat)) (n i j:Nat):Bool:=(fromB N n i).getD j false && (fromB N n j).getD i false
def classR (tx:Nat → ByteArray) (N:List (List Nat)) (n i m:Nat):List ByteArray:=((List.range m).filter (mutB N n i)).map tx
def hdB (c:List ByteArray):List UInt8:=kb (c.getD 0 ByteArray.empty)
def insC (c:List ByteArray) (o:List (List ByteArray)):List (List ByteArray):=insBy hdB (fun a b=>a < b) c o
theorem insC_at {c:List ByteArray}:∀ {o:List (List ByteArray)} {at_:Nat},(∀ q,q < at_ → ∀ h:q < o.length,hdB o[q] < hdB c) → at_ ≤ o.length → (∀ h:at_ < o.length,¬ hdB o[at_] < hdB c) → insC c o = o.take at_ ++ [c] ++ o.drop at_
 | [],at_,_,h2,_=>by
  obtain rfl:at_ = 0:=by simpa using h2
  rfl
 | y :: o,0,_,_,h3=>by
  have:¬ hdB y < hdB c:=h3 (by simp)
  unfold insC insBy
  rw [if_neg this];rfl
 | y :: o,at_ + 1,h1,h2,h3=>by
  have hy:hdB y < hdB c:=h1 0 o_m (by simp)
  have ih:=insC_at (c:=c) (o:=o) (at_:=at_) (fun q hq h=>h1 (q + 1) o_m (by simpa using h)) (by simpa using h2) (fun h=>h3 (by simpa using h))
  unfold insC insBy
  rw [if_pos hy]
  unfold insC at ih
  rw [ih];rfl
section
variable {ns:List Node} {N:List (List Nat)} {n:Nat} {b:Bool} {tx:Nat → ByteArray} {r:List (List ByteArray) × Bool}
def markP (N:List (List Nat)) (n i j:Nat) (D:List Bool):List Bool:=(List.range n).map fun q=>D.getD q false || (decide (q < j) && mutB N n i q)
theorem markP_zero {N:List (List Nat)} {n i:Nat} {D:List Bool} (hD:D.length = n):markP N n i 0 D = D:=by
 unfold markP
 refine List.ext_getElem (by simp [hD]) fun q h1 h2=>?_
 simp [List.getD_eq_getElem?_getD,List.getElem?_eq_getElem h2]
theorem markP_full {N:List (List Nat)} {n i:Nat} {D:List Bool}:markP N n i n D = markL (mutB N n) n i D:=by
 unfold markP markL
 refine List.map_congr_left fun q hq=>?_
 rw [decide_eq_true (List.mem_range.1 hq),Bool.true_and]
theorem markP_len {N:List (List Nat)} {n i j:Nat} {D:List Bool}:(markP N n i j D).length = n:=by unfold markP;simp
theorem markP_succ {N:List (List Nat)} {n i j:Nat} {D:List Bool} (hj:j < n):markP N n i (j + 1) D = if mutB N n i j = true then (markP N n i j D).set j true else markP N n i j D:=by
 have key:∀ q,q < n → (D.getD q false || (decide (q < j + 1) && mutB N n i q)) = if q = j ∧ mutB N n i j = true then true else (D.getD q false || (decide (q < j) && mutB N n i q)):=fun q hq=>by
  by_cases e:q = j
  rotate_left
  ·rw [if_neg (fun h=>e h.1)]
   by_cases h:q < j
   rotate_left
   ·rw [decide_eq_false h,decide_eq_false o_m]
   rw [decide_eq_true h,decide_eq_true o_m]
  subst e
  by_cases hm:mutB N n i q = true
  rotate_left
  ·rw [if_neg (fun h=>hm h.2),(by simpa using hm:mutB N n i q = false)];simp
  rw [if_pos ⟨rfl,hm⟩,hm,decide_eq_true o_m];simp
 refine List.ext_getElem (by split <;> simp [markP]) fun q h1 h2=>?_
 have hq:q < n:=by rw [markP_len] at h1;exact h1
 have e1:(markP N n i (j + 1) D)[q] = (D.getD q false || (decide (q < j + 1) && mutB N n i q)):=by simp [markP]
 have e0:∀ h:q < (markP N n i j D).length,(markP N n i j D)[q] = (D.getD q false || (decide (q < j) && mutB N n i q)):=fun h=>by simp [markP]
 rw [e1,key q hq]
 by_cases hm:mutB N n i j = true
 rotate_left
 ·simp only [if_neg hm]
  rw [if_neg (fun h=>hm h.2),e0]
 simp only [if_pos hm]
 rw [List.getElem_set]
 by_cases e:j = q
 rotate_left
 ·rw [if_neg e,if_neg (fun h=>e h.1.symm),e0]
 subst e;rw [if_pos rfl,if_pos ⟨rfl,hm⟩]
theorem classR_succ {i m:Nat}:classR tx N n i (m + 1) = if mutB N n i m = true then classR tx N n i m ++ [tx m] else classR tx N n i m:=by
 unfold classR
 rw [List.range_succ,List.filter_append,List.map_append]
 by_cases h:mutB N n i m = true
 rotate_left
 ·rw [if_neg h,List.filter_cons_of_neg h];simp
 rw [if_pos h,List.filter_cons_of_pos h];rfl
theorem classR_len {i m:Nat}:(classR tx N n i m).length ≤ m:=by
 unfold classR
 rw [List.length_map]
 exact Nat.le_trans (List.length_filter_le _ _) (by simp)
def foldC (tx:Nat → ByteArray) (N:List (List Nat)) (n:Nat) (L:List Nat):List (List ByteArray):=L.foldl (fun o i=>insC (sortB (classR tx N n i n)) o) []
theorem foldC_snoc {L:List Nat} {i:Nat}:foldC tx N n (L ++ [i]) = insC (sortB (classR tx N n i n)) (foldC tx N n L):=by
 unfold foldC;rw [List.foldl_append];rfl
theorem insC_len (c:List ByteArray) (o:List (List ByteArray)):(insC c o).length = o.length + 1:=by
 unfold insC
 rw [(insBy_perm hdB (fun a b=>a < b) c o).length_eq];rfl
theorem foldC_len:∀ (m:Nat) (L:List Nat),L.length = m → (foldC tx N n L).length = m
 | 0,L,h=>by
  rw [List.eq_nil_of_length_eq_zero h];rfl
 | m + 1,L,h=>by
  obtain ⟨L',a,rfl⟩:∃ L' a,L = L' ++ [a]:=⟨L.dropLast,L.getLast (by intro e;rw [e] at h;cases h),(List.dropLast_concat_getLast _).symm⟩
  rw [foldC_snoc,insC_len,foldC_len m L' (by simpa using h)]
theorem classR_pos (hE:∀ i,i < n → mutB N n i i = true) {i:Nat} (hi:i < n):0 < (classR tx N n i n).length:=by
 unfold classR
 rw [List.length_map]
 exact List.length_pos_of_mem (List.mem_filter.2 ⟨List.mem_range.2 hi,hE i hi⟩)
end
def classA (t:ByteArray):List (List ByteArray) × Bool:=match srch t with
 | none=>([],false)
 | some q=>(foldC (fun j=>textB (q.1,q.2.1,q.2.2.T.getD j [])) q.2.2.N q.2.2.T.length (firsts (mutB q.2.2.N q.2.2.T.length) q.2.2.T.length),true)
end Go.Proofs.YtldhkbiomingbaaGreatDoor.F

namespace Go.Proofs.YtldhkbiomingbaaGreatDoor.F
open Go.Proofs.YtldhkbiomingbaaGreatDoor
open Go.RowKit Go.YW.PrintWords Go.YW.PrintLast Go.YW.PrintMore Go.Lib Go.Sort Go.Shelf
attribute [local go_sem] max2_int min2_int
def hd1 (c:List ByteArray):ByteArray:=c.getD 0 ByteArray.empty
theorem compareB_lt:∀ a b:List UInt8,(compareBytes a b < 0) ↔ a < b
 | [],[]=>by simp [compareBytes]
 | [],_ :: _=>by simp [compareBytes]
 | _ :: _,[]=>by simp [compareBytes]
 | a :: l,b :: m=>by
  unfold compareBytes
  rw [List.cons_lt_cons_iff]
  by_cases h1:a < b
  ·rw [if_pos h1];simp [h1]
  rw [if_neg h1]
  by_cases h2:b < a
  rotate_left
  ·rw [if_neg h2,compareB_lt l m]
   have e:a = b:=UInt8.le_antisymm (UInt8.not_lt.1 h2) (UInt8.not_lt.1 h1)
   simp [e]
  rw [if_pos h2]
  have hne:a ≠ b:=fun e=>h1 (e ▸ h2)
  simp [h1,hne]
theorem swo_key {α:Type} [Inhabited α] (K:α → List UInt8) (cf:α → α → Int) (h:∀ x y,cf x y < 0 ↔ K x < K y):SWO (ltOf cf) where
 irrefl x:=decide_eq_false (fun q=>List.lt_irrefl _ ((h x x).1 q))
 trans x y z h1 h2:=decide_eq_true ((h x z).2 (List.lt_trans ((h x y).1 (of_decide_eq_true h1)) ((h y z).1 (of_decide_eq_true h2))))
 ntrans x y z h1 h2:=by
  have a1:=of_decide_eq_false h1
  have a2:=of_decide_eq_false h2
  rw [h,List.not_lt] at a1 a2
  exact decide_eq_false (fun q=>absurd ((h x z).1 q) (List.not_lt.2 (List.le_trans a2 a1)))
theorem cls_cmp (a b:List ByteArray) (A B:Option Addr) (ca cb:Nat) (W:World) (hA:Kd.C Kd.string W A a.length a) (hB:Kd.C Kd.string W B b.length b) (ha:0 < a.length) (hb:0 < b.length) :
  Calls Tryz.prog 86 #[.slice A a.length ca,.slice B b.length cb] W fun e w'=>e = .returned (.int .i64 (compareBytes (hd1 a).data.toList (hd1 b).data.toList)) ∧ ∃ q,w' = W.drewN q:=by
 obtain ⟨g1,o1,rfl,_,hc1⟩:=C_place hA ha
 obtain ⟨g2,o2,rfl,_,hc2⟩:=C_place hB hb
 have x1:W.cell? ⟨g1,o1,none⟩ = some (.string (hd1 a)):=hc1 0 _ (by unfold hd1;rw [List.getD_eq_getElem?_getD,List.getElem?_eq_getElem ha];rfl)
 have x2:W.cell? ⟨g2,o2,none⟩ = some (.string (hd1 b)):=hc2 0 _ (by unfold hd1;rw [List.getD_eq_getElem?_getD,List.getElem?_eq_getElem hb];rfl)
 have haI:(0:Int) < (a.length:Int):=by omega
 have hbI:(0:Int) < (b.length:Int):=by omega
 obtain ⟨s1,hs1⟩:∃ x,hd1 a = x:=⟨_,rfl⟩
 obtain ⟨s2,hs2⟩:∃ x,hd1 b = x:=⟨_,rfl⟩
 rw [hs1] at x1 ⊢
 rw [hs2] at x2 ⊢
 clear hA hB hc1 hc2 hs1 hs2
 go_enter Tryz.func86,Tryz.ntmps86
 go_wp2
 refine start_ (n:=8) (S:=fun w'=>w'.cell? ⟨g1,o1,none⟩ = some (.string s1) ∧ w'.cell? ⟨g2,o2,none⟩ = some (.string s2)) (ds:=[]) (bm 8 0) k_r rfl rfl ⟨x1,x2⟩ (fun hHeld=>?_)
 refine take_ (i:=0) (N:=some 5) (v:=?_) (a':=?_) (bm 8 1) rfl rfl k_r (fun _ _ _ h=>h) (Or.inl ⟨by rfl,?_⟩) hHeld ?_ ?_
 rotate_left
 ·rintro w' ⟨s_0,s_1⟩
  go_simp
  try with_reducible rfl
 rotate_left
 ·simp only [Act.put,ac_]
  rfl
 refine take_ (i:=1) (N:=some 6) (v:=?_) (a':=?_) (bm 8 3) rfl rfl k_r (fun _ _ _ h=>h) (Or.inl ⟨by rfl,?_⟩) hHeld ?_ ?_
 rotate_left
 ·rintro w' ⟨s_0,s_1⟩
  go_simp
  try with_reducible rfl
 rotate_left
 ·simp only [Act.put,ac_]
  rfl
 refine take_ (i:=2) (N:=some 7) (v:=?_) (a':=?_) (bm 8 7) rfl rfl k_r (fun _ _ _ h=>h) (Or.inl ⟨by rfl,?_⟩) hHeld ?_ ?_
 rotate_left
 ·rintro w' ⟨s_0,s_1⟩
  go_simp
  try with_reducible rfl
 rotate_left
 ·simp only [Act.put,ac_]
  rfl
 refine take_ (i:=3) (N:=some 8) (v:=?_) (a':=?_) (bm 8 15) rfl rfl k_r (fun _ _ _ h=>h) (Or.inl ⟨by rfl,?_⟩) hHeld ?_ ?_
 rotate_left
 ·rintro w' ⟨s_0,s_1⟩
  go_simp
  try with_reducible rfl
 rotate_left
 ·simp only [Act.put,ac_]
  rfl
 refine take_ (i:=4) (N:=some 9) (v:=?_) (a':=?_) (bm 8 31) rfl rfl k_r (fun _ _ _ h=>h) (Or.inl ⟨by rfl,?_⟩) hHeld ?_ ?_
 rotate_left
 ·rintro w' ⟨s_0,s_1⟩
  go_simp
  try with_reducible rfl
 rotate_left
 ·simp only [Act.put,ac_]
  rfl
 refine take_ (i:=5) (N:=some 10) (v:=?_) (a':=?_) (bm 8 63) rfl rfl k_r (fun _ _ _ h=>h) (Or.inl ⟨by rfl,?_⟩) hHeld ?_ ?_
 rotate_left
 ·rintro w' ⟨s_0,s_1⟩
  go_simp
  try with_reducible rfl
 rotate_left
 ·simp only [Act.put,ac_]
  rfl
 refine one_ (i:=6) (N:=some 11) (bm 8 127) rfl rfl k_r d_c (fun K' hK'=>?_)
 refine goes_ Tryz.func87 k_r rfl #[.string s1,.string s2] (by rfl) rfl rfl (by (try simp only [List.map_toArray,List.map_cons,List.map_nil]);first | done | rfl) ?_
 refine (Tryz.strings_Compare s1 s2 _).mono ?_
 rintro e w4 ⟨rfl,rfl⟩
 refine ⟨_,rfl,?_⟩
 refine hK'.out _ _ ⟨x1,x2⟩ (fun hHeld=>?_)
 clear hK' K'
 refine nm (some 11) ?_
 refine take_ (i:=7) (N:=some 4) (v:=?_) (a':=?_) (bm 8 255) rfl rfl k_r (fun _ _ _ h=>h) (Or.inl ⟨by rfl,?_⟩) hHeld ?_ ?_
 rotate_left
 ·rintro w' ⟨s_0,s_1⟩
  go_simp
  try with_reducible rfl
 rotate_left
 ·simp only [Act.put,ac_]
  rfl
 refine done_ k_r ?_
 go_wp2
 go_ret
 exact ⟨rfl,⟨1,rfl⟩⟩
theorem drop_take_one {l:List Value} {i:Nat} {u:Value} (h:(l.drop (i * 1)).take 1 = [u]):l[i]? = some u:=by
 have:=congrArg (fun q=>q[0]?) h
 simpa using this
theorem sortC_calls {W:World} {base:Nat} {ok:Nat → Prop} {v:Value} {xs:List (List ByteArray)} (h:Kd.S (Kd.slice 9 Kd.string) 35 W base ok v xs) (hne:∀ c ∈ xs,0 < c.length) (hlen:xs.length < 4000000000) :
  Calls Tryz.prog 85 #[v,.func (.func 86) #[] #[]] W fun e w'=>e = .returned (.tuple #[]) ∧ ∃ ys,ys.Perm xs ∧ ys.Pairwise (fun a b=>¬ (hd1 b).data.toList < (hd1 a).data.toList) ∧ Kd.S (Kd.slice 9 Kd.string) 35 w' base ok v ys ∧ (∀ w:World,Go.RowKit.Below w.heap.size w W → w.heap.size ≤ base → Go.RowKit.Below w.heap.size w w'):=by
 by_cases hz:xs = []
 ·subst hz
  obtain ⟨A,c,rfl⟩:=Kd.S_slice h
  refine (Tryz.slices_SortFunc_none_f85 (α:=Nat) A c _ W).mono ?_
  rintro e w' ⟨rfl,rfl⟩
  exact ⟨rfl,[],List.Perm.refl _,List.Pairwise.nil,h,fun w hw _=>hw⟩
 have hpos:0 < xs.length:=List.length_pos_iff.2 hz
 letI:Inhabited (Fin xs.length):=⟨⟨0,hpos⟩⟩
 obtain ⟨f,h0,inner,ho,hr⟩:=h
 have hil:inner.length = xs.length:=by have:=hr.1;rw [List.length_zipIdx] at this;rw [this];exact Nat.mul_one _
 rw [List.length_zipIdx] at ho
 have hel:∀ i:Fin xs.length,∃ u:Value,inner[i.val]? = some u ∧ Kd.R Kd.string 9 W base (fun k=>(ok k ∧ some k ≠ v.ownBlock) ∧ f k = i.val) u xs[i.val]:=fun i=>by
  obtain ⟨u,hu,hR⟩:=hr.2 i.val (xs[i.val],i.val) (Kd.zip_at (List.getElem?_eq_getElem i.isLt))
  exact ⟨u,drop_take_one hu,hR⟩
 obtain ⟨enc,henc⟩:=Classical.axiomOfChoice hel
 have h1:∀ i,(enc i).oneCell' = true:=fun i=>(Kd.R_val (henc i).2).2
 have hinner:inner = encs enc (List.finRange xs.length):=by
  refine List.ext_getElem? fun i=>?_
  by_cases hi:i < xs.length
  rotate_left
  ·rw [List.getElem?_eq_none o_m,List.getElem?_eq_none (by unfold encs;simp;omega)]
  rw [(henc ⟨i,hi⟩).1]
  unfold encs
  rw [List.getElem?_map,List.getElem?_eq_getElem (by simpa using hi)]
  simp
 have hS:(Kd.scalar enc h1).R 35 W base ok v (List.finRange xs.length):=Kd.R_of_own (by rw [← hinner,List.length_finRange];exact ho) h0
 rcases row_sorted hS with ⟨A,c,rfl,hx⟩ | ⟨g,cap,rfl,hcap,hg,hlt,hH,hput⟩
 ·have:=congrArg List.length hx
  simp at this
  exact absurd this hz
 rw [List.length_finRange] at hcap hput ⊢
 have hsz:(List.finRange xs.length).toArray.size = xs.length:=by simp
 have hfar:∀ (m:Nat) (os:Array Obj) (dk:Array (Fin xs.length)) (k:Nat),k < W.heap.size → k ≠ g → (sortWorld enc W g 0 m dk os).heap[k]? = W.heap[k]?:=fun m os dk k hk hne=>sort_other enc W g m k dk os hk hne
 have hRo:∀ (m:Nat) (os:Array Obj) (dk:Array (Fin xs.length)) (i:Fin xs.length),Kd.R Kd.string 9 (sortWorld enc W g 0 m dk os) base (fun k=>(ok k ∧ some k ≠ (Value.slice (some ⟨g,0,none⟩) xs.length cap).ownBlock) ∧ f k = i.val) (enc i) xs[i.val]:=fun m os dk i =>
  Kd.R_step (henc i).2 (fun k hk hlt2=>hfar m os dk k hlt2 (fun e=>hk.1.2 (by rw [e];rfl)))
 have hcall:=Tryz.slices_SortFunc_f85 enc h1 (fun i j:Fin xs.length=>compareBytes (hd1 xs[i.val]).data.toList (hd1 xs[j.val]).data.toList) (swo_key (fun i:Fin xs.length=>(hd1 xs[i.val]).data.toList) _ (fun i j=>compareB_lt _ _)) 86 #[] g 0 cap (List.finRange xs.length).toArray W (enters_of Tryz.func86 k_r rfl) (fun m os dk hs x y=>by
  obtain ⟨A,ca,ea,_,hA⟩:=Kd.R_reads (hRo m os dk x)
  obtain ⟨B,cb,eb,_,hB⟩:=Kd.R_reads (hRo m os dk y)
  show Calls Tryz.prog 86 #[enc x,enc y] _ _
  rw [ea,eb]
  refine (cls_cmp xs[x.val] xs[y.val] A B ca cb _ hA hB (hne _ (List.getElem_mem x.isLt)) (hne _ (List.getElem_mem y.isLt))).mono ?_
  rintro e w' ⟨he,q,hq⟩
  exact ⟨he,q,#[],by rw [hq,grow_empty]⟩) hH hlt (by rw [hsz];omega)
 rw [hsz] at hcall
 refine hcall.mono ?_
 rintro e w' ⟨rfl,d',n,os,⟨hd1_,_,hperm⟩,hsort,rfl⟩
 rw [hsz] at hd1_
 have hp:d'.toList.Perm (List.finRange xs.length):=by
  have a1:=Array.extract_size (xs:=d')
  rw [hd1_] at a1
  have a2:=Array.extract_size (xs:=(List.finRange xs.length).toArray)
  rw [hsz] at a2
  rw [a1,a2] at hperm
  exact hperm
 have hnd:d'.toList.Nodup:=hp.nodup_iff.2 (List.nodup_finRange _)
 have hl:d'.toList.length = xs.length:=by rw [Array.length_toList];exact hd1_
 refine ⟨rfl,d'.toList.map (fun i:Fin xs.length=>xs[i.val]),?_,?_,?_,fun w hw hb=>sort_below enc g n d' os hw (Nat.le_trans hb hg)⟩
 ·refine (hp.map _).trans ?_
  rw [show (List.finRange xs.length).map (fun i:Fin xs.length=>xs[i.val]) = xs from List.ext_getElem (by simp) fun i h1 h2=>by simp]
 ·rw [List.pairwise_map]
  refine List.pairwise_iff_getElem.2 fun i j hi hj hij=>?_
  have:=hsort i j (Nat.zero_le _) hij (by rw [← hl];exact hj)
  rw [getElem!_pos d' j (by rw [hd1_,← hl];exact hj),getElem!_pos d' i (by rw [hd1_,← hl];exact hi)] at this
  have:=of_decide_eq_false this
  rw [compareB_lt] at this
  simpa using this
 ·have hR:=hput d'.toList xs.length n os hl (by rw [hl];exact Nat.le_refl _)
  rw [List.take_of_length_le (by rw [hl];exact Nat.le_refl _),Array.toArray_toList] at hR
  have hown:=Kd.own_of_R hR
  have hex:∀ m:Nat,∃ j:Nat,∀ (i:Nat) (h:i < d'.toList.length),(d'.toList[i]'h).val = m → j = i:=fun m=>by
   by_cases he:∃ i,∃ h:i < d'.toList.length,(d'.toList[i]'h).val = m
   rotate_left
   ·exact ⟨0,fun i hi him=>absurd ⟨i,hi,him⟩ he⟩
   obtain ⟨j,hj,hjm⟩:=he
   refine ⟨j,fun i hi him=>?_⟩
   have heq:d'.toList[j] = d'.toList[i]:=Fin.ext (by rw [hjm,him])
   rcases Nat.lt_trichotomy j i with h | h | h
   ·exact absurd heq (List.pairwise_iff_getElem.1 hnd j i hj hi h)
   ·exact h
   ·exact absurd heq.symm (List.pairwise_iff_getElem.1 hnd i j hi hj h)
  obtain ⟨σ,hσ⟩:=Classical.axiomOfChoice hex
  refine ⟨fun k=>σ (f k),h0,encs enc d'.toList,?_,?_,fun j p hj=>?_⟩
  ·rw [List.length_zipIdx,List.length_map];exact hown
  ·unfold encs;rw [List.length_map,List.length_zipIdx,List.length_map];exact (Nat.mul_one _).symm
  ·rw [List.getElem?_zipIdx,List.getElem?_map] at hj
   by_cases hjl:j < d'.toList.length
   rotate_left
   ·rw [List.getElem?_eq_none o_m] at hj;cases hj
   rw [List.getElem?_eq_getElem hjl] at hj
   obtain rfl:=Option.some.inj hj
   refine ⟨enc d'.toList[j],?_,?_⟩
   ·show (((encs enc d'.toList).drop (j * 1)).take 1) = _
    unfold encs
    rw [Nat.mul_one,List.drop_eq_getElem_cons (by rw [List.length_map];exact hjl),List.getElem_map];rfl
   ·refine Kd.R_mono (hRo n os d' d'.toList[j]) (fun k hk=>⟨hk.1,?_⟩)
    show σ (f k) = 0 + j
    rw [hk.2,Nat.zero_add]
    exact hσ _ j hjl rfl
end Go.Proofs.YtldhkbiomingbaaGreatDoor.F

namespace Go.Proofs.YtldhkbiomingbaaGreatDoor.F
open Go.Proofs.YtldhkbiomingbaaGreatDoor
open Go.RowKit Go.YW.PrintWords Go.YW.PrintMore
def fstP (M:Nat → Nat → Bool) (i j:Nat):Bool:=(List.range j).all fun k=>!M i k || decide (i ≤ k)
theorem fstP_succ (M:Nat → Nat → Bool) (i j:Nat):fstP M i (j + 1) = (fstP M i j && (!M i j || decide (i ≤ j))):=by
 unfold fstP
 rw [List.range_succ,List.all_append];simp
def outC (tx:Nat → ByteArray) (N:List (List Nat)) (n i:Nat):List (List ByteArray):=((List.range i).filter (isFst (mutB N n) n)).map fun i=>sortB (classR tx N n i n)
section
variable {N:List (List Nat)} {n:Nat} {tx:Nat → ByteArray}
theorem outC_succ (i:Nat):outC tx N n (i + 1) = if fstP (mutB N n) i n = true then outC tx N n i ++ [sortB (classR tx N n i n)] else outC tx N n i:=by
 unfold outC
 rw [List.range_succ,List.filter_append,List.map_append]
 show _ = if isFst (mutB N n) n i = true then _ else _
 by_cases h:isFst (mutB N n) n i = true
 rotate_left
 ·rw [if_neg h,List.filter_cons_of_neg h];simp
 rw [if_pos h,List.filter_cons_of_pos h];rfl
theorem outC_len (i:Nat):(outC tx N n i).length ≤ i:=by
 unfold outC
 rw [List.length_map]
 exact Nat.le_trans (List.length_filter_le _ _) (by simp)
theorem sortB_perm (l:List ByteArray):(sortB l).Perm l:=by
 have h:=(List.mergeSort_perm (l.map fun b=>b.data.toList) (fun x y=>decide (x ≤ y))).map (fun l:List UInt8=>(⟨l.toArray⟩:ByteArray))
 unfold sortB
 refine h.trans ?_
 rw [List.map_map]
 conv=>rhs;rw [← List.map_id l]
 exact List.Perm.refl _
theorem outC_pos (hE:Eqv (mutB N n) n) {i:Nat} (hi:i ≤ n):∀ c ∈ outC tx N n i,0 < c.length:=fun c hc=>by
 obtain ⟨k,hk,rfl⟩:=List.mem_map.1 hc
 rw [sortB_len]
 exact classR_pos hE.refl (Nat.lt_of_lt_of_le (List.mem_range.1 (List.mem_filter.1 hk).1) hi)
theorem head_mem {c:List ByteArray} (h:0 < c.length):c.getD 0 ByteArray.empty ∈ c:=by
 rw [List.getD_eq_getElem?_getD,List.getElem?_eq_getElem h];exact List.getElem_mem h
theorem kb_inj {a b:ByteArray} (h:kb a = kb b):a = b:=by
 have:=Array.toList_inj.1 h
 cases a;cases b;simp_all
theorem heads_apart (hE:Eqv (mutB N n) n) (htx:∀ a b,a < n → b < n → tx a = tx b → a = b) {i j:Nat} (hi:i ∈ firsts (mutB N n) n) (hj:j ∈ firsts (mutB N n) n) (h:hdB (sortB (classR tx N n i n)) = hdB (sortB (classR tx N n j n))):i = j:=by
 obtain ⟨hi1,hi2⟩:=List.mem_filter.1 hi
 obtain ⟨hj1,hj2⟩:=List.mem_filter.1 hj
 have hin:=List.mem_range.1 hi1
 have hjn:=List.mem_range.1 hj1
 have e:=kb_inj h
 have m1:=(sortB_perm _).mem_iff.1 (head_mem (c:=sortB (classR tx N n i n)) (by rw [sortB_len];exact classR_pos hE.refl hin))
 have m2:=(sortB_perm _).mem_iff.1 (head_mem (c:=sortB (classR tx N n j n)) (by rw [sortB_len];exact classR_pos hE.refl hjn))
 rw [e] at m1
 obtain ⟨a,ha,ea⟩:=List.mem_map.1 m1
 obtain ⟨b,hb,eb⟩:=List.mem_map.1 m2
 obtain ⟨ha1,ha2⟩:=List.mem_filter.1 ha
 obtain ⟨hb1,hb2⟩:=List.mem_filter.1 hb
 have han:=List.mem_range.1 ha1
 have hbn:=List.mem_range.1 hb1
 obtain rfl:=htx a b han hbn (ea.trans eb.symm)
 have hij:=hE.trans i a j hin han hjn ha2 (hE.symm j a hjn han hb2)
 rcases Nat.lt_trichotomy i j with h | h | h
 ·exact absurd ⟨i,h,hij⟩ ((isFst_iff hE hjn).1 hj2)
 ·exact h
 ·exact absurd ⟨j,h,hE.symm i j hin hjn hij⟩ ((isFst_iff hE hin).1 hi2)
theorem cls_sorted (hE:Eqv (mutB N n) n) (htx:∀ a b,a < n → b < n → tx a = tx b → a = b) {ys:List (List ByteArray)} (hp:ys.Perm (outC tx N n n)) (hs:ys.Pairwise fun a b=>¬ hdB b < hdB a):ys = foldC tx N n (firsts (mutB N n) n):=by
 have ht:∀ a b c:List UInt8,a < b → b < c → a < c:=fun a b c h1 h2=>List.lt_trans h1 h2
 have htot:∀ a b:List UInt8,¬ a < b → ¬ b < a → a = b:=fun a b h1 h2=>List.le_antisymm (List.not_lt.1 h2) (List.not_lt.1 h1)
 have hnd:((outC tx N n n).map hdB).Nodup:=by
  show (((firsts (mutB N n) n).map fun i=>sortB (classR tx N n i n)).map hdB).Nodup
  rw [List.map_map]
  refine List.pairwise_map.2 ?_
  have hn:(firsts (mutB N n) n).Nodup:=List.Pairwise.filter _ List.nodup_range
  exact (List.Pairwise.imp_of_mem (fun {a b} ha hb hab h=>hab (heads_apart hE htx ha hb h)) hn)
 obtain ⟨h1,h2⟩:=sortBy_go hdB (fun a b=>a < b) ht htot (outC tx N n n) [] List.Pairwise.nil (by rw [List.append_nil];exact hnd)
 rw [List.append_nil] at h1
 have hfold:foldC tx N n (firsts (mutB N n) n) = (outC tx N n n).foldl (fun o x=>insBy hdB (fun a b=>a < b) x o) []:=by
  unfold foldC outC firsts
  rw [List.foldl_map];rfl
 rw [hfold]
 refine sorted_by_one hdB (fun a b=>a < b) (fun a=>List.lt_irrefl a) ht ?_ h2 (hp.trans h1.symm)
 have hnd':(ys.map hdB).Nodup:=((hp.map hdB).nodup_iff).2 hnd
 have hne:ys.Pairwise fun a b=>hdB a ≠ hdB b:=List.pairwise_map.1 hnd'
 refine (List.Pairwise.and hs hne).imp fun {a b} h=>?_
 exact Classical.byContradiction fun q=>h.2 (htot _ _ q h.1)
end
end Go.Proofs.YtldhkbiomingbaaGreatDoor.F

namespace Go.Proofs.YtldhkbiomingbaaGreatDoor.F
open Go.Proofs.YtldhkbiomingbaaGreatDoor
open Go.RowKit Go.YW.PrintWords Go.YW.PrintLast Go.YW.PrintMore
attribute [local go_sem] max2_int min2_int max_two min_two max_three min_three max_four min_four
def laws_eqStringS.l0:Nat → List ByteArray → List ByteArray → Int → Option (Bool)
 | 0,_,_,_=>none
 | k + 1,x0,x1,x5=>if x5 < (x0.length:Int) then (if 0 ≤ x5 then (if x5 < (x1.length:Int) then (if (rdOf ByteArray.empty x0 x5).toList = (rdOf ByteArray.empty x1 x5).toList then (laws_eqStringS.l0 k x0 x1 (wrap64 (x5 + 1))) else (some false)) else (none)) else (none)) else (some true)
def laws_eqStringS.f (k:Nat) (l0:List ByteArray) (l1:List ByteArray):Option (Bool):=if (l0.length:Int) = (l1.length:Int) then (laws_eqStringS.l0 k l0 l1 0) else (some false)
theorem laws_eqStringS.mono_l:∀ k,(∀ y0 y1 y2,LeO (laws_eqStringS.l0 k y0 y1 y2) (laws_eqStringS.l0 (k + 1) y0 y1 y2))
 | 0=>fun _ _ _ r h=>by simp [laws_eqStringS.l0] at h
 | k + 1=>by
  have ih0:=laws_eqStringS.mono_l k
  ·intro y0 y1 y2
   unfold laws_eqStringS.l0
   exact mo
theorem laws_eqStringS.mono:∀ a0 a1 k,LeO (laws_eqStringS.f k a0 a1) (laws_eqStringS.f (k + 1) a0 a1):=by
 intro a0 a1 k
 have ih0:=laws_eqStringS.mono_l k
 unfold laws_eqStringS.f
 exact mo
theorem laws_eqStringS.calls (k:Nat) (A0:Option Addr) (c0:Nat) (l0:List ByteArray) (A1:Option Addr) (c1:Nat) (l1:List ByteArray) (r:Bool) (w:World) (hr0:Kd.C Kd.string w A0 l0.length l0) (hc0:l0.length ≤ c0) (hr1:Kd.C Kd.string w A1 l1.length l1) (hc1:l1.length ≤ c1) (h:laws_eqStringS.f k l0 l1 = some r) :
  Calls Tryz.prog 26 #[.slice A0 l0.length c0,.slice A1 l1.length c1] w fun e w'=>e = .returned (.bool r) ∧ Drawn0 w w':=by
 have HR0:=am hr0
 have HC0:=am hc0
 clear hr0 hc0
 have HR1:=am hr1
 have HC1:=am hc1
 clear hr1 hc1
 have H:(if (l0.length:Int) = (l1.length:Int) then (laws_eqStringS.l0 k l0 l1 0) else (some false)) = some r:=h
 clear h
 by_cases c3:(l0.length:Int) = (l1.length:Int)
 rotate_left
 ·rw [if_neg c3] at H
  have c3b0:=beq_eq_false_iff_ne.mpr c3
  have c3b1:=bne_iff_ne.mpr c3
  have c3b2:(l0.length == l1.length) = false:=by first | simpa using c3 | (simp at c3 ⊢;omega)
  obtain rfl:=Option.some.inj H
  go_enter Tryz.func26,Tryz.ntmps26
  go_wp2
  repeat (go_quiet (fail);try go_wp2)
  go_ret
  exact ⟨aq6,aq13⟩
 rw [if_pos c3] at H
 have c3b0:=beq_iff_eq.mpr c3
 have c3b1:=bne_eq_false_iff_eq.mpr c3
 have c3b2:(l0.length == l1.length) = true:=by first | simpa using c3 | (simp at c3 ⊢;omega)
 clear c3
 have H':=am H
 clear H
 go_enter Tryz.func26,Tryz.ntmps26
 go_wp2
 repeat (go_quiet (fail);try go_wp2)
 go_loopg [5] k (fun kq v5 w'=>∃ (x5_1:Int),v5 = .int .i64 x5_1 ∧ Aside0 (laws_eqStringS.l0 kq l0 l1 x5_1 = some r) ∧ Aside0 (kq ≤ k) ∧ Drawn0 w w')
 case atStart=>exact ⟨(0),aq6,H',⟨Nat.le_refl _⟩,aq13⟩
 case round =>
  clear H'
  try clear c1
  try clear c2
  try clear p2
  try clear c3
  try clear c3b0
  try clear c3b1
  try clear c3b2
  obtain ⟨x5_1,rfl,HA,HK1,⟨m1,rfl⟩⟩:=hrel
  cases gk with
  | zero=>exact absurd HA.out (by simp [laws_eqStringS.l0])
  | succ k1 =>
   have H:=HA.out
   clear HA
   simp only [laws_eqStringS.l0] at H
   by_cases c4:x5_1 < (l0.length:Int)
   rotate_left
   ·rw [if_neg c4] at H
    have c4b0:=decide_eq_false c4
    clear c4
    obtain rfl:=Option.some.inj H
    go_wp2
    repeat (go_quiet (fail);try go_wp2)
    go_ret
    exact ⟨aq6,aq13⟩
   rw [if_pos c4] at H
   have c4b0:=decide_eq_true c4
   clear c4
   replace H:=gd H
   obtain ⟨c5,H⟩:=H
   have c5b0:=decide_eq_true c5
   clear c5
   replace H:=gd H
   obtain ⟨c6,H⟩:=H
   have c6b0:=decide_eq_true c6
   clear c6
   by_cases c7:(rdOf ByteArray.empty l0 x5_1).toList = (rdOf ByteArray.empty l1 x5_1).toList
   rotate_left
   ·rw [if_neg c7] at H
    have c7b0:=beq_eq_false_iff_ne.mpr c7
    have c7b1:=bne_iff_ne.mpr c7
    obtain rfl:=Option.some.inj H
    have p101:0 ≤ (x5_1:Int):=of_decide_eq_true aq4
    have q101:x5_1 < (l0.length:Int):=of_decide_eq_true aq4
    obtain ⟨ad101,e101,hx101_0⟩:=Kd.at_string HR0.out x5_1 p101 q101
    cases e101
    replace p101:=eq_true p101
    replace q101:=eq_true q101
    have p102:0 ≤ (x5_1:Int):=of_decide_eq_true aq4
    have q102:x5_1 < (l1.length:Int):=of_decide_eq_true aq4
    obtain ⟨ad102,e102,hx102_0⟩:=Kd.at_string HR1.out x5_1 p102 q102
    cases e102
    replace p102:=eq_true p102
    replace q102:=eq_true q102
    go_wp2
    repeat (go_quiet (fail);try go_wp2)
    go_ret
    exact ⟨aq6,aq13⟩
   rw [if_pos c7] at H
   have c7b0:=beq_iff_eq.mpr c7
   have c7b1:=bne_eq_false_iff_eq.mpr c7
   clear c7
   have H':=am H
   clear H
   have p101:0 ≤ (x5_1:Int):=of_decide_eq_true aq4
   have q101:x5_1 < (l0.length:Int):=of_decide_eq_true aq4
   obtain ⟨ad101,e101,hx101_0⟩:=Kd.at_string HR0.out x5_1 p101 q101
   cases e101
   replace p101:=eq_true p101
   replace q101:=eq_true q101
   have p102:0 ≤ (x5_1:Int):=of_decide_eq_true aq4
   have q102:x5_1 < (l1.length:Int):=of_decide_eq_true aq4
   obtain ⟨ad102,e102,hx102_0⟩:=Kd.at_string HR1.out x5_1 p102 q102
   cases e102
   replace p102:=eq_true p102
   replace q102:=eq_true q102
   go_wp2
   repeat (go_quiet (fail);try go_wp2)
   go_roundg k1
   case measure=>have:=HK1.out;omega
   case rel=>exact ⟨(wrap64 (x5_1 + 1)),aq6,H',⟨aq56⟩,aq13⟩
def laws_markText.l0:Nat → Int → ByteArray → Option (ByteArray)
 | 0,_,_=>none
 | k + 1,x0,x3=>if x0 > 0 then ((some (([(wrap64 (48 + (Int.tmod x0 10))) % 256]:List Int):List Int)).bind fun y101=>(if (strOfNums y101).size + x3.size ≤ 9223372036854775807 then (laws_markText.l0 k (wrap64 (Int.tdiv x0 10)) ((strOfNums y101) ++ x3)) else (none))) else (if 1 + x3.size ≤ 9223372036854775807 then (some ((⟨#[109]⟩:ByteArray) ++ x3)) else (none))
def laws_markText.f (k:Nat) (a0:Int):Option (ByteArray):=if a0 ≤ 0 then (some (⟨#[109,48]⟩:ByteArray)) else (laws_markText.l0 k a0 (⟨#[]⟩:ByteArray))
theorem laws_markText.mono_l:∀ k,(∀ y0 y1,LeO (laws_markText.l0 k y0 y1) (laws_markText.l0 (k + 1) y0 y1))
 | 0=>fun _ _ r h=>by simp [laws_markText.l0] at h
 | k + 1=>by
  have ih0:=laws_markText.mono_l k
  ·intro y0 y1
   unfold laws_markText.l0
   exact mo
theorem laws_markText.mono:∀ a0 k,LeO (laws_markText.f k a0) (laws_markText.f (k + 1) a0):=by
 intro a0 k
 have ih0:=laws_markText.mono_l k
 unfold laws_markText.f
 exact mo
theorem laws_markText.calls (k:Nat) (a0:Int) (r:ByteArray) (w:World) (h:laws_markText.f k a0 = some r) :
  Calls Tryz.prog 62 #[.int .i64 a0] w fun e w'=>e = .returned (.string r) ∧ Below w.heap.size w w':=by
 have HB:=am (Below.refl w.heap.size w)
 have H:(if a0 ≤ 0 then (some (⟨#[109,48]⟩:ByteArray)) else (laws_markText.l0 k a0 (⟨#[]⟩:ByteArray))) = some r:=h
 clear h
 by_cases c2:a0 ≤ 0
 ·rw [if_pos c2] at H
  have c2b0:=decide_eq_true c2
  clear c2
  obtain rfl:=Option.some.inj H
  go_enter Tryz.func62,Tryz.ntmps62
  go_wp2
  go_ret
  exact ⟨aq9,aq1⟩
 rw [if_neg c2] at H
 have c2b0:=decide_eq_false c2
 clear c2
 have H':=am H
 clear H
 go_enter Tryz.func62,Tryz.ntmps62
 go_wp2
 go_loopg [0,3] k (fun kq v0 v3 w'=>∃ (x0_1:Int) (x3_1:ByteArray),v0 = .int .i64 x0_1 ∧ v3 = .string x3_1 ∧ Aside0 (laws_markText.l0 kq x0_1 x3_1 = some r) ∧ Aside0 (kq ≤ k) ∧ Aside0 (Below w.heap.size w w'))
 case atStart=>exact ⟨(a0),((⟨#[]⟩:ByteArray)),aq6,aq6,H',⟨Nat.le_refl _⟩,⟨aq1⟩⟩
 case round =>
  clear H'
  try clear c2
  try clear c2b0
  try clear p2
  obtain ⟨x0_1,x3_1,rfl,rfl,HA,HK1,HB⟩:=hrel
  cases gk with
  | zero=>exact absurd HA.out (by simp [laws_markText.l0])
  | succ k1 =>
   have H:=HA.out
   clear HA
   simp only [laws_markText.l0] at H
   by_cases c3:x0_1 > 0
   rotate_left
   ·rw [if_neg c3] at H
    have c3b0:=decide_eq_false c3
    clear c3
    replace H:=gd H
    obtain ⟨c8,H⟩:=H
    have c8b0:=eq_true c8
    have c8b1:=decide_eq_true c8
    try have c8b2:(9223372036854775807 < 1 + x3_1.size) = False:=eq_false (Nat.not_lt.2 c8)
    obtain rfl:=Option.some.inj H
    go_wp2
    go_ret
    exact ⟨aq9,aq1⟩
   rw [if_pos c3] at H
   have c3b0:=decide_eq_true c3
   clear c3
   obtain ⟨y101,hy_⟩:∃ y_:List Int,y_ = (([(wrap64 (48 + (Int.tmod x0_1 10))) % 256]:List Int)):=⟨_,rfl⟩
   replace H:(if (strOfNums y101).size + x3_1.size ≤ 9223372036854775807 then (laws_markText.l0 k1 (wrap64 (Int.tdiv x0_1 10)) ((strOfNums y101) ++ x3_1)) else (none)) = some r:=aq3
   have Ny101:=am hy_
   clear hy_
   replace H:=gd H
   obtain ⟨c4,H⟩:=H
   have c4b0:=eq_true c4
   have c4b1:=decide_eq_true c4
   try have c4b2:(9223372036854775807 < (strOfNums y101).size + x3_1.size) = False:=eq_false (Nat.not_lt.2 c4)
   have H':=am H
   clear H
   go_wp2_with (first | ((with_reducible refine gate_dst (N:=12) rfl ?_);refine Kd.R_lit (Kd.int .u8) _ 5 ?hg (N:=12) ?hd (xs:=([(wrap64 (48 + (Int.tmod x0_1 10))) % 256]:List Int)) (inner:=[.int .u8 ((wrap64 (48 + (Int.tmod x0_1 10))) % 256)]) (ok:=fun _=>True) (okp:=fun _=>True) ?hr ?hp (fun _ hk=>hk) trivial (Below.refl _ _) (Nat.le_refl _) (by simp) ?_;(case hd=>rfl);(case hg=>rfl);(case hr=>exact aq12);(case hp=>exact (Reps.one (show Kd.M (Kd.int .u8) _ _ _ ((wrap64 (48 + (Int.tmod x0_1 10))) % 256) [.int .u8 ((wrap64 (48 + (Int.tmod x0_1 10))) % 256)] from rfl) (Reps.none _ _)));intro v102 w5 ho6 hb hg_ hnew_;clear hg_ hnew_;(first | rw [← Ny101.out] at ho6 | (simp only [Int.reduceToNat] at ho6;rw [← Ny101.out] at ho6));have HO103:=am (Kd.R_lower ho6 (below_size aq1));replace HB:=am (below_step aq1 hb);clear hb ho6;(first | have hcv7:=own_string (P:=Tryz.prog) Tryz.underlying63 Tryz.underlying5 Tryz.underlying9 (Kd.own_of_R HO103.out) | have hcv7:=(show ∀ {A:Option Addr} {n c:Nat} {xs:List Int} {ok:Nat → Prop} {W:World} {b:Nat},Kd.V (Kd.int .u8) 5 W b ok (.slice A n c) xs → (convert 63 9 (.slice A n c)).run Tryz.prog W = .ok (.string (strOfNums xs)) W from fun h=>by obtain ⟨rfl,_,hC⟩:=Kd.V_reads' h;exact Kd.C_string Tryz.underlying63 Tryz.underlying5 Tryz.underlying9 hC) HO103.out)))
   go_roundg k1
   case measure=>have:=HK1.out;omega
   case rel=>exact ⟨(wrap64 (Int.tdiv x0_1 10)),((strOfNums y101) ++ x3_1),aq6,aq6,H',⟨aq56⟩,⟨aq1⟩⟩
def laws_markStringS.l0:Nat → List ByteArray → Int → Int → Option (Int × List ByteArray)
 | 0,_,_,_=>none
 | k + 1,x0,x1,x5=>if x5 < (x0.length:Int) then ((laws_markText.f k x1).bind fun t101=>(if 0 ≤ x5 then (laws_markStringS.l0 k (x0.set (x5:Int).toNat t101) (wrap64 (x1 + 1)) (wrap64 (x5 + 1))) else (none))) else (some (x1,x0))
def laws_markStringS.f (k:Nat) (l0:List ByteArray) (a1:Int):Option (Int × List ByteArray):=laws_markStringS.l0 k l0 a1 0
theorem laws_markStringS.mono_l:∀ k,(∀ y0 y1 y2,LeO (laws_markStringS.l0 k y0 y1 y2) (laws_markStringS.l0 (k + 1) y0 y1 y2))
 | 0=>fun _ _ _ r h=>by simp [laws_markStringS.l0] at h
 | k + 1=>by
  have ih0:=laws_markStringS.mono_l k
  ·intro y0 y1 y2
   unfold laws_markStringS.l0
   have im0:=@laws_markText.mono;exact mo
theorem laws_markStringS.mono:∀ a0 a1 k,LeO (laws_markStringS.f k a0 a1) (laws_markStringS.f (k + 1) a0 a1):=by
 intro a0 a1 k
 have ih0:=laws_markStringS.mono_l k
 unfold laws_markStringS.f
 have im0:=@laws_markText.mono;exact mo
theorem laws_markStringS.calls (k:Nat) (P0_:Nat → Prop) (u9000_:Value) (l0:List ByteArray) (a1:Int) (r1:Int) (r2:List ByteArray) (w0 w:World) (hB:Below w0.heap.size w0 w) (ho0:Kd.R Kd.string 9 w w0.heap.size P0_ u9000_ l0) (h:laws_markStringS.f k l0 a1 = some (r1,r2)) :
  Calls Tryz.prog 27 #[u9000_,.int .i64 a1] w fun e w'=>e = .returned (.int .i64 r1) ∧ Kd.R Kd.string 9 w' w0.heap.size (fun k_=>(P0_ k_ ∨ w.heap.size ≤ k_)) u9000_ r2 ∧ Below w0.heap.size w0 w' ∧ Kept w w' (fun k_=>P0_ k_):=by
 have HO0:=am (show Kd.R Kd.string 9 w w0.heap.size (fun k_=>(P0_ k_ ∨ w.heap.size ≤ k_)) u9000_ l0 from Kd.R_mono ho0 (fun k_ hk=>(.inl hk)))
 have HK:=am (Kept.refl w (fun k_=>P0_ k_))
 have HW0:=am hB.size
 have HB:=am hB
 clear hB
 have H:(laws_markStringS.l0 k l0 a1 0) = some (r1,r2):=h
 clear h
 have H':=am H
 clear H
 go_enter Tryz.func27,Tryz.ntmps27
 go_wp2
 go_loopg [1,5] k (fun kq v1 v5 w'=>∃ (x0_1:List ByteArray) (x1_1:Int) (x5_1:Int),v1 = .int .i64 x1_1 ∧ v5 = .int .i64 x5_1 ∧ Aside0 (laws_markStringS.l0 kq x0_1 x1_1 x5_1 = some (r1,r2)) ∧ Aside0 (kq ≤ k) ∧ Aside0 (Kd.R Kd.string 9 w' w0.heap.size (fun k_=>(P0_ k_ ∨ w.heap.size ≤ k_)) u9000_ x0_1) ∧ Aside0 (Kept w w' (fun k_=>P0_ k_)) ∧ Aside0 (Below w0.heap.size w0 w'))
 case atStart=>exact ⟨(l0),(a1),(0),aq6,aq6,H',⟨Nat.le_refl _⟩,⟨by (with_reducible repeat (first | apply Kd.R_alloc | apply Kd.R_drewN | apply Kd.R_drew));exact HO0.out⟩,⟨aq24⟩,⟨aq1⟩⟩
 case round =>
  clear H'
  try clear c2
  try clear p2
  obtain ⟨x0_1,x1_1,x5_1,rfl,rfl,HA,HK1,HO_0,HK,HB⟩:=hrel
  cases gk with
  | zero=>exact absurd HA.out (by simp [laws_markStringS.l0])
  | succ k1 =>
   have H:=HA.out
   clear HA
   simp only [laws_markStringS.l0] at H
   by_cases c3:x5_1 < (x0_1.length:Int)
   rotate_left
   ·rw [if_neg c3] at H
    have c3b0:=decide_eq_false c3
    clear c3
    simp only [Option.some.injEq,Prod.mk.injEq] at H
    obtain ⟨rfl,rfl⟩:=H
    obtain ⟨Ao11,co11,eo11⟩:=Kd.R_slice HO_0.out
    subst eo11
    go_wp2
    go_ret
    exact ⟨aq9,aq38,aq1,aq24⟩
   rw [if_pos c3] at H
   have c3b0:=decide_eq_true c3
   clear c3
   obtain ⟨t101,A4,H⟩:=bn H
   replace H:=gd H
   obtain ⟨c5,H⟩:=H
   have c5b0:=decide_eq_true c5
   clear c5
   obtain ⟨y102,hy_⟩:∃ y_:List ByteArray,y_ = (x0_1.set (x5_1:Int).toNat t101):=⟨_,rfl⟩
   replace H:(laws_markStringS.l0 k1 y102 (wrap64 (x1_1 + 1)) (wrap64 (x5_1 + 1))) = some (r1,r2):=aq3
   have Ny102:=am hy_
   clear hy_
   have H':=am H
   clear H
   obtain ⟨Ao7,co7,eo7⟩:=Kd.R_slice HO_0.out
   subst eo7
   go_wp2_with (first | ((with_reducible refine gate_callee (f:=62) rfl ?_);refine goesL_ (some 15) rfl rfl Tryz.func62 k_r rfl #[.int .i64 x1_1] rfl aq8 ?_;(with_reducible refine (laws_markText.calls k1 x1_1 t101 _ A4.out).mono ?_);rintro e w8 ⟨rfl,hb⟩;refine ⟨_,rfl,?_⟩;replace HO_0:=am (Kd.R_below aq38 hb);replace HK:=am (Kept.below (S:=(fun k_=>P0_ k_)) aq24 hb);replace HB:=am (below_step aq1 hb);(try clear hb);have p6:0 ≤ (x5_1:Int):=of_decide_eq_true aq4;have q6:(x5_1:Int) < ((x0_1.length:Int):Int):=of_decide_eq_true aq4;obtain ⟨go6,co6,eo6,gb6,gl6,cl6,HG6⟩:=Kd.R_form HO_0.out o_m;(first | cases eo6 | (injection eo6 with ea_ en_ ec_;(first | subst ea_ | (injection ea_ with ea_;subst ea_));subst ec_;clear en_));have GB6:=am gb6;have GG6:=am HG6;clear gb6 gl6 HG6;have HMgo6:=am (show (P0_ go6 ∨ w.heap.size ≤ go6) from (HO_0.out.1 _ rfl));obtain ⟨hx6_0,hf6_0⟩:=Kd.R_celln (⟨#[]⟩:ByteArray) HO_0.out (x5_1:Int) p6 q6;replace p6:=eq_true p6;replace q6:=eq_true q6;obtain ⟨hy9_,hz9_⟩:=Kd.R_celln (⟨#[]⟩:ByteArray) HO_0.out (x5_1:Int) (of_decide_eq_true aq4) (of_decide_eq_true aq4);have HP9:=Kd.R_putg HO_0.out (x5_1:Int) t101) | ((with_reducible refine gate_store (t:=9) (p:=16) rfl ?_);refine store_event (t:=9) (p:=16) (v:=?vo_w10) (w1:=(w8.setCell ⟨go6,(x5_1:Int).toNat,none⟩ (.string t101))) ?hg ?ho ?hn ?hr ?_;(case ho=>rfl);(case hg=>rfl);(case hn=>rfl);(case hr=>exact aq12);intro w10 hw;have hg:w8.grownBy w10 (some go6):=(by rw [hw];exact HP9.2);have hp_:Kd.R Kd.string 9 w10 w0.heap.size (fun k_=>(P0_ k_ ∨ w.heap.size ≤ k_)) (.slice (some ⟨go6,0,none⟩) x0_1.length co7) y102:=(by rw [hw,Ny102.out];exact HP9.1);clear HP9;replace HB:=am ((by rw [hw];exact below_set (HB.out) GB6.out:Below w0.heap.size w0 w10));replace HK:=am (Kept.of_grown (S:=(fun k_=>P0_ k_)) hg aq24 (fun k_ e_=>(HO_0.out.1 k_ e_)));replace HO_0:=am (hp_);clear hg hw hp_))
   go_roundg k1
   case measure=>have:=HK1.out;omega
   case rel=>exact ⟨(y102),(wrap64 (x1_1 + 1)),(wrap64 (x5_1 + 1)),aq6,aq6,H',⟨aq56⟩,⟨aq38⟩,⟨aq24⟩,⟨aq1⟩⟩
def laws_heldStringS.l0:Nat → List ByteArray → Int → Int → Option (Int)
 | 0,_,_,_=>none
 | k + 1,x0,x1,x5=>if x5 < (x0.length:Int) then (if 0 ≤ x5 then ((laws_markText.f k x1).bind fun t102=>(if (rdOf ByteArray.empty x0 x5).toList = t102.toList then (laws_heldStringS.l0 k x0 (wrap64 (x1 + 1)) (wrap64 (x5 + 1))) else (some (-1)))) else (none)) else (some x1)
def laws_heldStringS.f (k:Nat) (l0:List ByteArray) (a1:Int):Option (Int):=laws_heldStringS.l0 k l0 a1 0
theorem laws_heldStringS.mono_l:∀ k,(∀ y0 y1 y2,LeO (laws_heldStringS.l0 k y0 y1 y2) (laws_heldStringS.l0 (k + 1) y0 y1 y2))
 | 0=>fun _ _ _ r h=>by simp [laws_heldStringS.l0] at h
 | k + 1=>by
  have ih0:=laws_heldStringS.mono_l k
  ·intro y0 y1 y2
   unfold laws_heldStringS.l0
   have im0:=@laws_markText.mono;exact mo
theorem laws_heldStringS.mono:∀ a0 a1 k,LeO (laws_heldStringS.f k a0 a1) (laws_heldStringS.f (k + 1) a0 a1):=by
 intro a0 a1 k
 have ih0:=laws_heldStringS.mono_l k
 unfold laws_heldStringS.f
 have im0:=@laws_markText.mono;exact mo
theorem laws_heldStringS.calls (k:Nat) (A0:Option Addr) (c0:Nat) (l0:List ByteArray) (a1:Int) (r:Int) (w:World) (hr0:Kd.C Kd.string w A0 l0.length l0) (hc0:l0.length ≤ c0) (h:laws_heldStringS.f k l0 a1 = some r) :
  Calls Tryz.prog 28 #[.slice A0 l0.length c0,.int .i64 a1] w fun e w'=>e = .returned (.int .i64 r) ∧ Below w.heap.size w w':=by
 have HR0:=am hr0
 have HC0:=am hc0
 clear hr0 hc0
 have HB:=am (Below.refl w.heap.size w)
 have H:(laws_heldStringS.l0 k l0 a1 0) = some r:=h
 clear h
 have H':=am H
 clear H
 go_enter Tryz.func28,Tryz.ntmps28
 go_wp2
 go_loopg [1,5] k (fun kq v1 v5 w'=>∃ (x1_1:Int) (x5_1:Int),v1 = .int .i64 x1_1 ∧ v5 = .int .i64 x5_1 ∧ Aside0 (laws_heldStringS.l0 kq l0 x1_1 x5_1 = some r) ∧ Aside0 (kq ≤ k) ∧ Aside0 (Below w.heap.size w w'))
 case atStart=>exact ⟨(a1),(0),aq6,aq6,H',⟨Nat.le_refl _⟩,⟨aq1⟩⟩
 case round =>
  clear H'
  try clear c2
  try clear p2
  obtain ⟨x1_1,x5_1,rfl,rfl,HA,HK1,HB⟩:=hrel
  cases gk with
  | zero=>exact absurd HA.out (by simp [laws_heldStringS.l0])
  | succ k1 =>
   have H:=HA.out
   clear HA
   simp only [laws_heldStringS.l0] at H
   by_cases c3:x5_1 < (l0.length:Int)
   rotate_left
   ·rw [if_neg c3] at H
    have c3b0:=decide_eq_false c3
    clear c3
    obtain rfl:=Option.some.inj H
    go_wp2
    go_ret
    exact ⟨aq9,aq1⟩
   rw [if_pos c3] at H
   have c3b0:=decide_eq_true c3
   clear c3
   replace H:=gd H
   obtain ⟨c4,H⟩:=H
   have c4b0:=decide_eq_true c4
   clear c4
   obtain ⟨t102,A5,H⟩:=bn H
   by_cases c6:(rdOf ByteArray.empty l0 x5_1).toList = t102.toList
   rotate_left
   ·rw [if_neg c6] at H
    have c6b0:=beq_eq_false_iff_ne.mpr c6
    have c6b1:=bne_iff_ne.mpr c6
    obtain rfl:=Option.some.inj H
    try go_wp2
    replace HB:=am (below_drew1 HB.out)
    have p101:0 ≤ (x5_1:Int):=of_decide_eq_true aq4
    have q101:x5_1 < (l0.length:Int):=of_decide_eq_true aq4
    obtain ⟨ad101,e101,hx101_0⟩:=Kd.at_string HR0.out x5_1 p101 q101
    have hw101_0:=hx101_0
    cases e101
    try replace hx101_0:=(HB.out.cell (World.block_lt_of_cell? w _ hx101_0)).trans hx101_0
    replace p101:=eq_true p101
    replace q101:=eq_true q101
    refine start_ (n:=7) (S:=fun w'=>w'.cell? (ad101.add (x5_1).toNat) = some (.string (rdOf ByteArray.empty l0 x5_1))) (ds:=[]) (bm 7 0) k_r rfl rfl (((HB.out.cell (World.block_lt_of_cell? w _ hw101_0)).trans hw101_0)) (fun hHeld=>?_)
    generalize wr.drew = w9 at HB hx101_0 hHeld ⊢
    refine py0 (i:=0) (N:=some 12) (bm 7 1) ?_
    refine py0 (i:=1) (N:=some 13) (bm 7 3) ?_
    refine py0 (i:=2) (N:=some 14) (bm 7 7) ?_
    refine py0 (i:=4) (N:=some 16) (bm 7 23) ?_
    refine take_ (i:=3) (N:=some 15) (v:=?_) (a':=?_) (bm 7 31) rfl rfl k_r (fun _ _ _ h=>h) (Or.inl ⟨by rfl,?_⟩) hHeld ?_ ?_
    rotate_left
    ·intro w' s0
     go_simp
     with_reducible rfl
    rotate_left
    ·simp only [Act.put,ac_]
     rfl
    refine one_ (i:=5) (N:=some 17) (bm 7 63) rfl rfl k_r d_c (fun K hK=>?_)
    refine goes_ Tryz.func62 k_r rfl #[.int .i64 x1_1] (by rfl) rfl rfl aq8 ?_
    with_reducible refine (laws_markText.calls k1 x1_1 t102 _ A5.out).mono ?_
    rintro e w10 ⟨rfl,hb⟩
    refine ⟨_,rfl,?_⟩
    replace HB:=am (below_step aq1 hb)
    (try clear hb)
    refine hK.out _ _ (((HB.out.cell (World.block_lt_of_cell? w _ hw101_0)).trans hw101_0)) (fun hHeld=>?_)
    clear hK K
    refine nm (some 17) ?_
    refine py0 (i:=6) (N:=some 18) (bm 7 127) ?_
    refine done_ k_r ?_
    try go_wp2
    go_ret
    exact ⟨aq9,aq1⟩
   rw [if_pos c6] at H
   have c6b0:=beq_iff_eq.mpr c6
   have c6b1:=bne_eq_false_iff_eq.mpr c6
   clear c6
   have H':=am H
   clear H
   try go_wp2
   replace HB:=am (below_drew1 HB.out)
   have p101:0 ≤ (x5_1:Int):=of_decide_eq_true aq4
   have q101:x5_1 < (l0.length:Int):=of_decide_eq_true aq4
   obtain ⟨ad101,e101,hx101_0⟩:=Kd.at_string HR0.out x5_1 p101 q101
   have hw101_0:=hx101_0
   cases e101
   try replace hx101_0:=(HB.out.cell (World.block_lt_of_cell? w _ hx101_0)).trans hx101_0
   replace p101:=eq_true p101
   replace q101:=eq_true q101
   refine start_ (n:=7) (S:=fun w'=>w'.cell? (ad101.add (x5_1).toNat) = some (.string (rdOf ByteArray.empty l0 x5_1))) (ds:=[]) (bm 7 0) k_r rfl rfl (((HB.out.cell (World.block_lt_of_cell? w _ hw101_0)).trans hw101_0)) (fun hHeld=>?_)
   generalize wr.drew = w7 at HB hx101_0 hHeld ⊢
   refine py0 (i:=0) (N:=some 12) (bm 7 1) ?_
   refine py0 (i:=1) (N:=some 13) (bm 7 3) ?_
   refine py0 (i:=2) (N:=some 14) (bm 7 7) ?_
   refine py0 (i:=4) (N:=some 16) (bm 7 23) ?_
   refine take_ (i:=3) (N:=some 15) (v:=?_) (a':=?_) (bm 7 31) rfl rfl k_r (fun _ _ _ h=>h) (Or.inl ⟨by rfl,?_⟩) hHeld ?_ ?_
   rotate_left
   ·intro w' s0
    go_simp
    with_reducible rfl
   rotate_left
   ·simp only [Act.put,ac_]
    rfl
   refine one_ (i:=5) (N:=some 17) (bm 7 63) rfl rfl k_r d_c (fun K hK=>?_)
   refine goes_ Tryz.func62 k_r rfl #[.int .i64 x1_1] (by rfl) rfl rfl aq8 ?_
   with_reducible refine (laws_markText.calls k1 x1_1 t102 _ A5.out).mono ?_
   rintro e w8 ⟨rfl,hb⟩
   refine ⟨_,rfl,?_⟩
   replace HB:=am (below_step aq1 hb)
   (try clear hb)
   refine hK.out _ _ (((HB.out.cell (World.block_lt_of_cell? w _ hw101_0)).trans hw101_0)) (fun hHeld=>?_)
   clear hK K
   refine nm (some 17) ?_
   refine py0 (i:=6) (N:=some 18) (bm 7 127) ?_
   refine done_ k_r ?_
   try go_wp2
   go_roundg k1
   case measure=>have:=HK1.out;omega
   case rel=>exact ⟨(wrap64 (x1_1 + 1)),(wrap64 (x5_1 + 1)),aq6,aq6,H',⟨aq56⟩,⟨aq1⟩⟩
end Go.Proofs.YtldhkbiomingbaaGreatDoor.F

namespace Go.Proofs.YtldhkbiomingbaaGreatDoor.F
open Go.RowKit Go.Proofs.YtldhkbiomingbaaGreatDoor Go.YW.PrintWords Go.YW.PrintMore
theorem eqS_l0 (l:List ByteArray) (hl:l.length ≤ 1000):∀ (n i:Nat),i + n = l.length → Ev (fun k=>laws_eqStringS.l0 k l l (i:Int)) true
 | 0,i,hi=>Ev.step (fun k=>by rw [laws_eqStringS.l0,if_neg o_m]) (Ev.now _)
 | n + 1,i,hi=>by
  have HW:Aside0 (wrap64 ((i:Int) + 1) = ((i + 1:Nat):Int)):=⟨by rw [w64 o_m o_m];rfl⟩
  refine Ev.step (fun k=>?_) (eqS_l0 l hl n (i + 1) o_m)
  rw [laws_eqStringS.l0,if_pos o_m,if_pos o_m,if_pos o_m,if_pos rfl,HW.out]
theorem eqS_ev (l:List ByteArray) (hl:l.length ≤ 1000):Ev (fun k=>laws_eqStringS.f k l l) true :=
 Ev.congr (fun k=>by rw [laws_eqStringS.f,if_pos rfl];rfl) (eqS_l0 l hl l.length 0 o_m)
theorem markText_l0:∀ (d n:Nat) (acc:ByteArray),n < d → d < 100000 → acc.size + d < 1000000 → ∃ t,Ev (fun k=>laws_markText.l0 k (n:Int) acc) t
 | 0,n,acc,h,_,_=>absurd h (Nat.not_lt_zero _)
 | d + 1,n,acc,h,hd,ha=>by
  by_cases h0:n = 0
  ·subst h0
   exact ⟨_,Ev.step (fun k=>by rw [laws_markText.l0,if_neg d_c,if_pos o_m]) (Ev.now _)⟩
  have e1:Int.tdiv (n:Int) 10 = ((n / 10:Nat):Int):=rfl
  have hlt:n / 10 < d:=by omega
  have hsz:(strOfNums [(wrap64 (48 + (Int.tmod (n:Int) 10))) % 256]).size = 1:=rfl
  obtain ⟨t,ht⟩:=markText_l0 d (n / 10) (strOfNums [(wrap64 (48 + (Int.tmod (n:Int) 10))) % 256] ++ acc) hlt o_m (by rw [ByteArray.size_append,hsz];omega)
  have HW:Aside0 (wrap64 ((n / 10:Nat):Int) = ((n / 10:Nat):Int)):=⟨w64 o_m o_m⟩
  refine ⟨t,Ev.step (fun k=>?_) ht⟩
  rw [laws_markText.l0,if_pos o_m,Option.bind_some,if_pos (by rw [hsz];omega),e1,HW.out]
theorem markText_ex (n:Nat) (hn:n < 99000):∃ t,Ev (fun k=>laws_markText.f k (n:Int)) t:=by
 by_cases h0:n = 0
 ·subst h0;exact ⟨_,Ev.congr (fun k=>by rw [laws_markText.f,if_pos d_c]) (Ev.now _)⟩
 obtain ⟨t,ht⟩:=markText_l0 (n + 1) n (⟨#[]⟩:ByteArray) o_m o_m (by show 0 + (n + 1) < _;omega)
 exact ⟨t,Ev.congr (fun k=>by rw [laws_markText.f,if_neg o_m]) ht⟩
noncomputable def mkT (n:Nat):ByteArray:=if h:n < 99000 then Classical.choose (markText_ex n h) else ByteArray.empty
theorem mkT_ev {n:Nat} (hn:n < 99000):Ev (fun k=>laws_markText.f k (n:Int)) (mkT n):=by
 unfold mkT;rw [dif_pos hn];exact Classical.choose_spec (markText_ex n hn)
noncomputable def marksT (m n:Nat):List ByteArray:=(List.range n).map fun j=>mkT (m + j)
theorem marksT_length (m n:Nat):(marksT m n).length = n:=by simp [marksT]
theorem markS_l0 (l:List ByteArray) (m:Nat) (hl:l.length ≤ 1000) (hm:m ≤ 95000):∀ (n i:Nat),i + n = l.length →
  Ev (fun k=>laws_markStringS.l0 k (marksT m i ++ l.drop i) ((m + i:Nat):Int) (i:Int)) (((m + l.length:Nat):Int),marksT m l.length)
 | 0,i,hi=>by
  obtain rfl:i = l.length:=by omega
  rw [List.drop_eq_nil_of_le (Nat.le_refl _),List.append_nil]
  exact Ev.step (fun k=>by rw [laws_markStringS.l0,if_neg (by rw [marksT_length];omega)]) (Ev.now _)
 | n + 1,i,hi=>by
  have hil:i < l.length:=by omega
  have HW:Aside0 (wrap64 ((i:Int) + 1) = ((i + 1:Nat):Int)):=⟨by rw [w64 o_m o_m];rfl⟩
  have HM:Aside0 (wrap64 (((m + i:Nat):Int) + 1) = ((m + (i + 1):Nat):Int)):=⟨by rw [w64 o_m o_m];omega⟩
  have hset:(marksT m i ++ l.drop i).set i (mkT (m + i)) = marksT m (i + 1) ++ l.drop (i + 1):=by
   rw [List.set_append_right _ _ (by rw [marksT_length];exact Nat.le_refl _),marksT_length,Nat.sub_self,List.drop_eq_getElem_cons hil,List.set_cons_zero]
   unfold marksT
   rw [List.range_succ,List.map_append,List.append_assoc];rfl
  have ih:=markS_l0 l m hl hm n (i + 1) o_m
  refine Ev.step (f:=fun k=>(laws_markText.f k ((m + i:Nat):Int)).bind fun t=>laws_markStringS.l0 k ((marksT m i ++ l.drop i).set i t) ((m + (i + 1):Nat):Int) ((i + 1:Nat):Int)) (fun k=>?_) (Ev.bind (mkT_ev o_m) (by rw [hset];exact ih))
  rw [laws_markStringS.l0,if_pos (by rw [List.length_append,marksT_length,List.length_drop];omega),HW.out,HM.out]
  congr 1
theorem heldS_l0 (m n:Nat) (hn:n ≤ 1000) (hm:m ≤ 95000):∀ (d i:Nat),i + d = n → Ev (fun k=>laws_heldStringS.l0 k (marksT m n) ((m + i:Nat):Int) (i:Int)) ((m + n:Nat):Int)
 | 0,i,hi=>by
  obtain rfl:i = n:=by omega
  exact Ev.step (fun k=>by rw [laws_heldStringS.l0,if_neg (by rw [marksT_length];omega)]) (Ev.now _)
 | d + 1,i,hi=>by
  have HW:Aside0 (wrap64 ((i:Int) + 1) = ((i + 1:Nat):Int)):=⟨by rw [w64 o_m o_m];rfl⟩
  have HM:Aside0 (wrap64 (((m + i:Nat):Int) + 1) = ((m + (i + 1):Nat):Int)):=⟨by rw [w64 o_m o_m];omega⟩
  have hget:rdOf ByteArray.empty (marksT m n) (i:Int) = mkT (m + i):=by
   unfold rdOf marksT
   rw [Int.toNat_natCast,List.getD_eq_getElem?_getD,List.getElem?_map,List.getElem?_range o_m];rfl
  refine Ev.step (f:=fun k=>(laws_markText.f k ((m + i:Nat):Int)).bind fun t=>if (mkT (m + i)).toList = t.toList then laws_heldStringS.l0 k (marksT m n) ((m + (i + 1):Nat):Int) ((i + 1:Nat):Int) else some (-1)) (fun k=>?_) (Ev.bind (mkT_ev o_m) (Ev.congr (fun k=>if_pos rfl) (heldS_l0 m n hn hm d (i + 1) o_m)))
  rw [laws_heldStringS.l0,if_pos (by rw [marksT_length];omega),if_pos o_m,HW.out,HM.out,hget]
end Go.Proofs.YtldhkbiomingbaaGreatDoor.F

namespace Go.Proofs.YtldhkbiomingbaaGreatDoor.F
open Go.Proofs.YtldhkbiomingbaaGreatDoor
open Go.RowKit Go.YW.PrintWords Go.YW.PrintLast Go.YW.PrintMore
attribute [local go_sem] max2_int min2_int max_two min_two max_three min_three max_four min_four
def laws_heldStringSS.l0:Nat → List (List ByteArray) → Int → Int → Option (Int)
 | 0,_,_,_=>none
 | k + 1,x0,x1,x5=>if x5 < (x0.length:Int) then (if 0 ≤ x5 then ((laws_heldStringS.f k (rd_L6 x0 x5) x1).bind fun t102=>(if t102 < 0 then (some (-1)) else (laws_heldStringSS.l0 k x0 t102 (wrap64 (x5 + 1))))) else (none)) else (some x1)
def laws_heldStringSS.f (k:Nat) (l0:List (List ByteArray)) (a1:Int):Option (Int):=laws_heldStringSS.l0 k l0 a1 0
theorem laws_heldStringSS.mono_l:∀ k,(∀ y0 y1 y2,LeO (laws_heldStringSS.l0 k y0 y1 y2) (laws_heldStringSS.l0 (k + 1) y0 y1 y2))
 | 0=>fun _ _ _ r h=>by simp [laws_heldStringSS.l0] at h
 | k + 1=>by
  have ih0:=laws_heldStringSS.mono_l k
  ·intro y0 y1 y2
   unfold laws_heldStringSS.l0
   have im0:=@laws_heldStringS.mono;exact mo
theorem laws_heldStringSS.mono:∀ a0 a1 k,LeO (laws_heldStringSS.f k a0 a1) (laws_heldStringSS.f (k + 1) a0 a1):=by
 intro a0 a1 k
 have ih0:=laws_heldStringSS.mono_l k
 unfold laws_heldStringSS.f
 have im0:=@laws_heldStringS.mono;exact mo
theorem laws_heldStringSS.calls (k:Nat) (A0:Option Addr) (c0:Nat) (l0:List (List ByteArray)) (a1:Int) (r:Int) (w:World) (hr0:Kd.C (Kd.slice 9 Kd.string) w A0 l0.length l0) (hc0:l0.length ≤ c0) (h:laws_heldStringSS.f k l0 a1 = some r) :
  Calls Tryz.prog 47 #[.slice A0 l0.length c0,.int .i64 a1] w fun e w'=>e = .returned (.int .i64 r) ∧ Below w.heap.size w w':=by
 have HR0:=am hr0
 have HC0:=am hc0
 clear hr0 hc0
 have HB:=am (Below.refl w.heap.size w)
 have H:(laws_heldStringSS.l0 k l0 a1 0) = some r:=h
 clear h
 have H':=am H
 clear H
 go_enter Tryz.func47,Tryz.ntmps47
 go_wp2
 go_loopg [1,5] k (fun kq v1 v5 w'=>∃ (x1_1:Int) (x5_1:Int),v1 = .int .i64 x1_1 ∧ v5 = .int .i64 x5_1 ∧ Aside0 (laws_heldStringSS.l0 kq l0 x1_1 x5_1 = some r) ∧ Aside0 (kq ≤ k) ∧ Aside0 (Below w.heap.size w w'))
 case atStart=>exact ⟨(a1),(0),aq6,aq6,H',⟨Nat.le_refl _⟩,⟨aq1⟩⟩
 case round =>
  clear H'
  try clear p2
  obtain ⟨x1_1,x5_1,rfl,rfl,HA,HK1,HB⟩:=hrel
  cases gk with
  | zero=>exact absurd HA.out (by simp [laws_heldStringSS.l0])
  | succ k1 =>
   have H:=HA.out
   clear HA
   simp only [laws_heldStringSS.l0] at H
   by_cases c3:x5_1 < (l0.length:Int)
   rotate_left
   ·rw [if_neg c3] at H
    have c3b0:=decide_eq_false c3
    clear c3
    obtain rfl:=Option.some.inj H
    go_wp2
    go_ret
    exact ⟨aq9,aq1⟩
   rw [if_pos c3] at H
   have c3b0:=decide_eq_true c3
   clear c3
   replace H:=gd H
   obtain ⟨c4,H⟩:=H
   have c4b0:=decide_eq_true c4
   clear c4
   obtain ⟨t102,A5,H⟩:=bn H
   by_cases c6:t102 < 0
   ·rw [if_pos c6] at H
    have c6b0:=decide_eq_true c6
    clear c6
    obtain rfl:=Option.some.inj H
    have p101:0 ≤ (x5_1:Int):=of_decide_eq_true aq4
    have q101:x5_1 < (l0.length:Int):=of_decide_eq_true aq4
    obtain ⟨ad101,A101_0,c101_0,e101,hx101_0,hl101_0,hi101_0⟩:=at_L6 HR0.out x5_1 p101 q101
    cases e101
    try replace hx101_0:=(HB.out.cell (World.block_lt_of_cell? w _ hx101_0)).trans hx101_0
    have HR101_0:=am hi101_0
    have HC101_0:=am hl101_0
    clear hi101_0 hl101_0
    replace p101:=eq_true p101
    replace q101:=eq_true q101
    go_wp2_with (first | ((with_reducible refine gate_callee (f:=28) rfl ?_);refine goesL_ (some 17) rfl rfl Tryz.func28 k_r rfl #[.slice A101_0 (rd_L6 l0 x5_1).length c101_0,.int .i64 x1_1] rfl aq8 ?_;(with_reducible refine (laws_heldStringS.calls k1 _ _ (rd_L6 l0 x5_1) x1_1 t102 _ ?side1 ?side2 A5.out).mono ?_);(case side1=>exact aq68);(case side2=>exact HC101_0.out);rintro e w7 ⟨rfl,hb⟩;refine ⟨_,rfl,?_⟩;replace HB:=am (below_step aq1 hb);(try clear hb)))
    go_ret
    exact ⟨aq9,aq1⟩
   rw [if_neg c6] at H
   have c6b0:=decide_eq_false c6
   clear c6
   have H':=am H
   clear H
   have p101:0 ≤ (x5_1:Int):=of_decide_eq_true aq4
   have q101:x5_1 < (l0.length:Int):=of_decide_eq_true aq4
   obtain ⟨ad101,A101_0,c101_0,e101,hx101_0,hl101_0,hi101_0⟩:=at_L6 HR0.out x5_1 p101 q101
   cases e101
   try replace hx101_0:=(HB.out.cell (World.block_lt_of_cell? w _ hx101_0)).trans hx101_0
   have HR101_0:=am hi101_0
   have HC101_0:=am hl101_0
   clear hi101_0 hl101_0
   replace p101:=eq_true p101
   replace q101:=eq_true q101
   go_wp2_with (first | ((with_reducible refine gate_callee (f:=28) rfl ?_);refine goesL_ (some 17) rfl rfl Tryz.func28 k_r rfl #[.slice A101_0 (rd_L6 l0 x5_1).length c101_0,.int .i64 x1_1] rfl aq8 ?_;(with_reducible refine (laws_heldStringS.calls k1 _ _ (rd_L6 l0 x5_1) x1_1 t102 _ ?side1 ?side2 A5.out).mono ?_);(case side1=>exact aq68);(case side2=>exact HC101_0.out);rintro e w8 ⟨rfl,hb⟩;refine ⟨_,rfl,?_⟩;replace HB:=am (below_step aq1 hb);(try clear hb)))
   go_roundg k1
   case measure=>have:=HK1.out;omega
   case rel=>exact ⟨(t102),(wrap64 (x5_1 + 1)),aq6,aq6,H',⟨aq56⟩,⟨aq1⟩⟩
end Go.Proofs.YtldhkbiomingbaaGreatDoor.F

namespace Go.Proofs.YtldhkbiomingbaaGreatDoor.F
open Go.Proofs.YtldhkbiomingbaaGreatDoor
open Go.RowKit Go.YW.PrintWords Go.YW.PrintLast Go.YW.PrintMore
attribute [local go_sem] max2_int min2_int
def laws_markStringSS.l0:Nat → List (List ByteArray) → Int → Int → Option (Int × List (List ByteArray))
 | 0,_,_,_=>none
 | k + 1,x0,x1,x5=>if x5 < (x0.length:Int) then (if 0 ≤ x5 then ((laws_markStringS.f k (rd_L6 x0 x5) x1).bind fun bt=>laws_markStringSS.l0 k (x0.set x5.toNat bt.2) bt.1 (wrap64 (x5 + 1))) else none) else some (x1,x0)
def laws_markStringSS.f (k:Nat) (l0:List (List ByteArray)) (a1:Int):Option (Int × List (List ByteArray)):=laws_markStringSS.l0 k l0 a1 0
theorem laws_markStringSS.mono_l:∀ k,(∀ y0 y1 y2,LeO (laws_markStringSS.l0 k y0 y1 y2) (laws_markStringSS.l0 (k + 1) y0 y1 y2))
 | 0=>fun _ _ _ r h=>by simp [laws_markStringSS.l0] at h
 | k + 1=>by
  have ih0:=laws_markStringSS.mono_l k
  intro y0 y1 y2
  unfold laws_markStringSS.l0
  have im0:=@laws_markStringS.mono;exact mo
theorem laws_markStringSS.mono:∀ a0 a1 k,LeO (laws_markStringSS.f k a0 a1) (laws_markStringSS.f (k + 1) a0 a1):=fun a0 a1 k=>laws_markStringSS.mono_l k a0 a1 0
theorem laws_markStringSS.calls (k:Nat) (P0_:Nat → Prop) (u_:Value) (l0:List (List ByteArray)) (a1:Int) (r1:Int) (r2:List (List ByteArray)) (w0 w:World) (hB:Below w0.heap.size w0 w) (ho0:Kd.S (Kd.slice 9 Kd.string) 35 w w0.heap.size P0_ u_ l0) (h:laws_markStringSS.f k l0 a1 = some (r1,r2)) :
  Calls Tryz.prog 46 #[u_,.int .i64 a1] w fun e w'=>e = .returned (.int .i64 r1) ∧ Kd.S (Kd.slice 9 Kd.string) 35 w' w0.heap.size P0_ u_ r2 ∧ Below w0.heap.size w0 w' ∧ Kept w w' (fun k_=>P0_ k_):=by
 have HO0:=am ho0
 have HK:=am (Kept.refl w (fun k_=>P0_ k_))
 have HB:=am hB
 have H':=am (show laws_markStringSS.l0 k l0 a1 0 = some (r1,r2) from h)
 clear hB ho0 h
 go_enter Tryz.func46,Tryz.ntmps46
 go_wp2
 go_loopg [1,5] k (fun kq v1 v5 w'=>∃ (x0:List (List ByteArray)) (x1 x5:Int),v1 = .int .i64 x1 ∧ v5 = .int .i64 x5 ∧ Aside0 (laws_markStringSS.l0 kq x0 x1 x5 = some (r1,r2)) ∧ Aside0 (kq ≤ k) ∧ Aside0 (Kd.S (Kd.slice 9 Kd.string) 35 w' w0.heap.size P0_ u_ x0) ∧ Aside0 (Kept w w' (fun k_=>P0_ k_)) ∧ Aside0 (Below w0.heap.size w0 w'))
 case atStart=>exact ⟨l0,a1,0,(by first | rfl | (simp;done)),(by first | rfl | (simp;done)),H',⟨Nat.le_refl _⟩,HO0,HK,HB⟩
 case round =>
  clear H'
  obtain ⟨x0,x1,x5,rfl,rfl,HA,HK1,HO,HK,HB⟩:=hrel
  obtain ⟨Ao,co,eo⟩:=Kd.S_slice HO.out
  subst eo
  cases gk with
  | zero=>exact absurd HA.out (by simp [laws_markStringSS.l0])
  | succ k1 =>
   have H:=HA.out
   clear HA
   simp only [laws_markStringSS.l0] at H
   by_cases c3:x5 < (x0.length:Int)
   rotate_left
   ·rw [if_neg c3] at H
    have c3b0:decide (x5 < (x0.length:Int)) = false:=decide_eq_false c3
    clear c3
    simp only [Option.some.injEq,Prod.mk.injEq] at H
    obtain ⟨rfl,rfl⟩:=H
    go_wp2
    go_ret
    exact ⟨by first | rfl | (simp;done),HO.out,HB.out,HK.out⟩
   rw [if_pos c3] at H
   replace H:=gd H
   obtain ⟨c4,H⟩:=H
   obtain ⟨⟨t1,t2⟩,A50,H⟩:=Option.bind_eq_some_iff.mp H
   have A5:=am A50
   have H':=am H
   clear A50 H
   obtain ⟨g,cap,eo2,hbg,hlg,hcells⟩:=Kd.S_form HO.out o_m
   (first | cases eo2 | (injection eo2 with ea_ en_ ec_;(first | subst ea_ | (injection ea_ with ea_;subst ea_));subst ec_;clear en_))
   obtain ⟨ad,A1,c1,e1,hx,hl,hi⟩:=at_L6 (Kd.S_reads' HO.out).2.2 x5 c4 c3
   cases e1
   obtain ⟨oki,cc,hcl,⟨v',rfl,hR⟩,hcc,hoki,hH⟩:=Kd.S_lend HO.out ([]:List ByteArray) x5 c4 o_m
   have hx2:=hcc 0 _ rfl
   rw [Nat.add_zero,show (Kd.slice 9 Kd.string).sz = 1 from rfl,Nat.mul_one] at hx2
   rw [add_plain] at hx
   have ev:v' = .slice A1 (rd_L6 x0 x5).length c1:=Option.some.inj (hx2.symm.trans hx)
   subst ev
   have HR:=am hR
   have HH:=am hH
   have HOK:=am hoki
   have c3b0:decide (x5 < (x0.length:Int)) = true:=decide_eq_true c3
   have c3p:=eq_true c3
   have c4p:=eq_true c4
   clear hR hH hoki hcc hcl hcells hl hi hx2 c3 c4
   go_wp2_with (first | (go_at_call 27;refine (laws_markStringS.calls k1 oki _ (rd_L6 x0 x5) x1 t1 t2 w0 _ HB.out HR.out A5.out).mono ?_;rintro e w7 ⟨rfl,hy0,hb,hk⟩;have HO2:=am (Kd.H_back (Kd.H_step HH.out (fun k ho hn hlt=>hk.2 k hlt hn)) (okp:=oki) ⟨_,rfl,Kd.R_reok rfl hy0 (fun k e=>HR.out.1 k e)⟩ (fun _ h=>h));have HK2:=am (show Kept w w7 (fun k_=>P0_ k_) from ⟨Nat.le_trans HK.out.1 hk.1,fun i hi hn=>(hk.2 i (Nat.lt_of_lt_of_le hi HK.out.1) (fun h=>hn (HOK.out i h).1)).trans (HK.out.2 i hi hn)⟩);have HB2:=am hb;clear hy0 hk hb))
   go_roundg k1
   case measure=>have:=HK1.out;omega
   case rel=>exact ⟨x0.set x5.toNat t2,t1,wrap64 (x5 + 1),(by first | rfl | (simp;done) | (simp [*];done)),(by first | rfl | (simp;done) | (simp [*];done)),H',⟨by have:=HK1.out;omega⟩,HO2,HK2,HB2⟩
end Go.Proofs.YtldhkbiomingbaaGreatDoor.F

namespace Go.Proofs.YtldhkbiomingbaaGreatDoor.F
open Go.Proofs.YtldhkbiomingbaaGreatDoor
open Go.RowKit Go.YW.PrintWords Go.YW.PrintLast Go.YW.PrintMore
attribute [local go_sem] max2_int min2_int max_two min_two max_three min_three max_four min_four
def laws_eqStringSS.l0:Nat → List (List ByteArray) → List (List ByteArray) → Int → Option (Bool)
 | 0,_,_,_=>none
 | k + 1,x0,x1,x5=>if x5 < (x0.length:Int) then (if 0 ≤ x5 then (if x5 < (x1.length:Int) then ((laws_eqStringS.f k (rd_L6 x0 x5) (rd_L6 x1 x5)).bind fun t103=>(if t103 = true then (laws_eqStringSS.l0 k x0 x1 (wrap64 (x5 + 1))) else (some false))) else (none)) else (none)) else (some true)
def laws_eqStringSS.f (k:Nat) (l0:List (List ByteArray)) (l1:List (List ByteArray)):Option (Bool):=if (l0.length:Int) = (l1.length:Int) then (laws_eqStringSS.l0 k l0 l1 0) else (some false)
theorem laws_eqStringSS.mono_l:∀ k,(∀ y0 y1 y2,LeO (laws_eqStringSS.l0 k y0 y1 y2) (laws_eqStringSS.l0 (k + 1) y0 y1 y2))
 | 0=>fun _ _ _ r h=>by simp [laws_eqStringSS.l0] at h
 | k + 1=>by
  have ih0:=laws_eqStringSS.mono_l k
  ·intro y0 y1 y2
   unfold laws_eqStringSS.l0
   have im0:=@laws_eqStringS.mono;exact mo
theorem laws_eqStringSS.mono:∀ a0 a1 k,LeO (laws_eqStringSS.f k a0 a1) (laws_eqStringSS.f (k + 1) a0 a1):=by
 intro a0 a1 k
 have ih0:=laws_eqStringSS.mono_l k
 unfold laws_eqStringSS.f
 have im0:=@laws_eqStringS.mono;exact mo
theorem laws_eqStringSS.calls (k:Nat) (A0:Option Addr) (c0:Nat) (l0:List (List ByteArray)) (A1:Option Addr) (c1:Nat) (l1:List (List ByteArray)) (r:Bool) (w:World) (hr0:Kd.C (Kd.slice 9 Kd.string) w A0 l0.length l0) (hc0:l0.length ≤ c0) (hr1:Kd.C (Kd.slice 9 Kd.string) w A1 l1.length l1) (hc1:l1.length ≤ c1) (h:laws_eqStringSS.f k l0 l1 = some r) :
  Calls Tryz.prog 45 #[.slice A0 l0.length c0,.slice A1 l1.length c1] w fun e w'=>e = .returned (.bool r) ∧ Drawn0 w w':=by
 have HR0:=am hr0
 have HC0:=am hc0
 clear hr0 hc0
 have HR1:=am hr1
 have HC1:=am hc1
 clear hr1 hc1
 have H:(if (l0.length:Int) = (l1.length:Int) then (laws_eqStringSS.l0 k l0 l1 0) else (some false)) = some r:=h
 clear h
 by_cases c3:(l0.length:Int) = (l1.length:Int)
 rotate_left
 ·rw [if_neg c3] at H
  have c3b0:=beq_eq_false_iff_ne.mpr c3
  have c3b1:=bne_iff_ne.mpr c3
  have c3b2:(l0.length == l1.length) = false:=by first | simpa using c3 | (simp at c3 ⊢;omega)
  obtain rfl:=Option.some.inj H
  go_enter Tryz.func45,Tryz.ntmps45
  go_wp2
  repeat (go_quiet (fail);try go_wp2)
  go_ret
  exact ⟨aq6,aq13⟩
 rw [if_pos c3] at H
 have c3b0:=beq_iff_eq.mpr c3
 have c3b1:=bne_eq_false_iff_eq.mpr c3
 have c3b2:(l0.length == l1.length) = true:=by first | simpa using c3 | (simp at c3 ⊢;omega)
 clear c3
 have H':=am H
 clear H
 go_enter Tryz.func45,Tryz.ntmps45
 go_wp2
 repeat (go_quiet (fail);try go_wp2)
 go_loopg [5] k (fun kq v5 w'=>∃ (x5_1:Int),v5 = .int .i64 x5_1 ∧ Aside0 (laws_eqStringSS.l0 kq l0 l1 x5_1 = some r) ∧ Aside0 (kq ≤ k) ∧ Drawn0 w w')
 case atStart=>exact ⟨(0),aq6,H',⟨Nat.le_refl _⟩,aq13⟩
 case round =>
  clear H'
  try clear c1
  try clear p2
  try clear c3
  try clear c3b0
  try clear c3b1
  try clear c3b2
  obtain ⟨x5_1,rfl,HA,HK1,⟨m1,rfl⟩⟩:=hrel
  cases gk with
  | zero=>exact absurd HA.out (by simp [laws_eqStringSS.l0])
  | succ k1 =>
   have H:=HA.out
   clear HA
   simp only [laws_eqStringSS.l0] at H
   by_cases c4:x5_1 < (l0.length:Int)
   rotate_left
   ·rw [if_neg c4] at H
    have c4b0:=decide_eq_false c4
    clear c4
    obtain rfl:=Option.some.inj H
    go_wp2
    repeat (go_quiet (fail);try go_wp2)
    go_ret
    exact ⟨aq6,aq13⟩
   rw [if_pos c4] at H
   have c4b0:=decide_eq_true c4
   clear c4
   replace H:=gd H
   obtain ⟨c5,H⟩:=H
   have c5b0:=decide_eq_true c5
   clear c5
   replace H:=gd H
   obtain ⟨c6,H⟩:=H
   have c6b0:=decide_eq_true c6
   clear c6
   obtain ⟨t103,A7,H⟩:=bn H
   by_cases c8:t103 = true
   rotate_left
   ·replace c8:=Bool.eq_false_iff.mpr c8
    subst c8
    rw [if_neg Bool.false_ne_true] at H
    obtain rfl:=Option.some.inj H
    have p101:0 ≤ (x5_1:Int):=of_decide_eq_true aq4
    have q101:x5_1 < (l0.length:Int):=of_decide_eq_true aq4
    obtain ⟨ad101,A101_0,c101_0,e101,hx101_0,hl101_0,hi101_0⟩:=at_L6 HR0.out x5_1 p101 q101
    cases e101
    have HR101_0:=am hi101_0
    have HC101_0:=am hl101_0
    clear hi101_0 hl101_0
    replace p101:=eq_true p101
    replace q101:=eq_true q101
    have p102:0 ≤ (x5_1:Int):=of_decide_eq_true aq4
    have q102:x5_1 < (l1.length:Int):=of_decide_eq_true aq4
    obtain ⟨ad102,A102_0,c102_0,e102,hx102_0,hl102_0,hi102_0⟩:=at_L6 HR1.out x5_1 p102 q102
    cases e102
    have HR102_0:=am hi102_0
    have HC102_0:=am hl102_0
    clear hi102_0 hl102_0
    replace p102:=eq_true p102
    replace q102:=eq_true q102
    go_wp2_with (first | (go_at_call 26;(with_reducible refine (laws_eqStringS.calls k1 _ _ (rd_L6 l0 x5_1) _ _ (rd_L6 l1 x5_1) false _ ?side1 ?side2 ?side3 ?side4 A7.out).mono ?_);(case side1=>exact aq26);(case side2=>exact HC101_0.out);(case side3=>exact aq25);(case side4=>exact HC102_0.out);rintro e w' ⟨rfl,⟨nd,rfl⟩⟩;(try first | exact ⟨rfl,_,World.drewN_drewN _ _ _⟩ | exact ⟨rfl,_,Eq.trans (World.drewN_drewN _ _ _) (congrArg (World.drewN _) (Nat.add_assoc _ _ _))⟩)))
    repeat (go_quiet (first | (go_at_call 26;(with_reducible refine (laws_eqStringS.calls k1 _ _ (rd_L6 l0 x5_1) _ _ (rd_L6 l1 x5_1) false _ ?side1 ?side2 ?side3 ?side4 A7.out).mono ?_);(case side1=>exact aq26);(case side2=>exact HC101_0.out);(case side3=>exact aq25);(case side4=>exact HC102_0.out);rintro e w' ⟨rfl,⟨nd,rfl⟩⟩;(try first | exact ⟨rfl,_,World.drewN_drewN _ _ _⟩ | exact ⟨rfl,_,Eq.trans (World.drewN_drewN _ _ _) (congrArg (World.drewN _) (Nat.add_assoc _ _ _))⟩)));try go_wp2_with (first | (go_at_call 26;(with_reducible refine (laws_eqStringS.calls k1 _ _ (rd_L6 l0 x5_1) _ _ (rd_L6 l1 x5_1) false _ ?side1 ?side2 ?side3 ?side4 A7.out).mono ?_);(case side1=>exact aq26);(case side2=>exact HC101_0.out);(case side3=>exact aq25);(case side4=>exact HC102_0.out);rintro e w' ⟨rfl,⟨nd,rfl⟩⟩;(try first | exact ⟨rfl,_,World.drewN_drewN _ _ _⟩ | exact ⟨rfl,_,Eq.trans (World.drewN_drewN _ _ _) (congrArg (World.drewN _) (Nat.add_assoc _ _ _))⟩))))
    go_ret
    exact ⟨aq6,aq13⟩
   subst c8
   rw [if_pos rfl] at H
   have H':=am H
   clear H
   have p101:0 ≤ (x5_1:Int):=of_decide_eq_true aq4
   have q101:x5_1 < (l0.length:Int):=of_decide_eq_true aq4
   obtain ⟨ad101,A101_0,c101_0,e101,hx101_0,hl101_0,hi101_0⟩:=at_L6 HR0.out x5_1 p101 q101
   cases e101
   have HR101_0:=am hi101_0
   have HC101_0:=am hl101_0
   clear hi101_0 hl101_0
   replace p101:=eq_true p101
   replace q101:=eq_true q101
   have p102:0 ≤ (x5_1:Int):=of_decide_eq_true aq4
   have q102:x5_1 < (l1.length:Int):=of_decide_eq_true aq4
   obtain ⟨ad102,A102_0,c102_0,e102,hx102_0,hl102_0,hi102_0⟩:=at_L6 HR1.out x5_1 p102 q102
   cases e102
   have HR102_0:=am hi102_0
   have HC102_0:=am hl102_0
   clear hi102_0 hl102_0
   replace p102:=eq_true p102
   replace q102:=eq_true q102
   go_wp2_with (first | (go_at_call 26;(with_reducible refine (laws_eqStringS.calls k1 _ _ (rd_L6 l0 x5_1) _ _ (rd_L6 l1 x5_1) true _ ?side1 ?side2 ?side3 ?side4 A7.out).mono ?_);(case side1=>exact aq26);(case side2=>exact HC101_0.out);(case side3=>exact aq25);(case side4=>exact HC102_0.out);rintro e w' ⟨rfl,⟨nd,rfl⟩⟩;(try first | exact ⟨rfl,_,World.drewN_drewN _ _ _⟩ | exact ⟨rfl,_,Eq.trans (World.drewN_drewN _ _ _) (congrArg (World.drewN _) (Nat.add_assoc _ _ _))⟩)))
   repeat (go_quiet (first | (go_at_call 26;(with_reducible refine (laws_eqStringS.calls k1 _ _ (rd_L6 l0 x5_1) _ _ (rd_L6 l1 x5_1) true _ ?side1 ?side2 ?side3 ?side4 A7.out).mono ?_);(case side1=>exact aq26);(case side2=>exact HC101_0.out);(case side3=>exact aq25);(case side4=>exact HC102_0.out);rintro e w' ⟨rfl,⟨nd,rfl⟩⟩;(try first | exact ⟨rfl,_,World.drewN_drewN _ _ _⟩ | exact ⟨rfl,_,Eq.trans (World.drewN_drewN _ _ _) (congrArg (World.drewN _) (Nat.add_assoc _ _ _))⟩)));try go_wp2_with (first | (go_at_call 26;(with_reducible refine (laws_eqStringS.calls k1 _ _ (rd_L6 l0 x5_1) _ _ (rd_L6 l1 x5_1) true _ ?side1 ?side2 ?side3 ?side4 A7.out).mono ?_);(case side1=>exact aq26);(case side2=>exact HC101_0.out);(case side3=>exact aq25);(case side4=>exact HC102_0.out);rintro e w' ⟨rfl,⟨nd,rfl⟩⟩;(try first | exact ⟨rfl,_,World.drewN_drewN _ _ _⟩ | exact ⟨rfl,_,Eq.trans (World.drewN_drewN _ _ _) (congrArg (World.drewN _) (Nat.add_assoc _ _ _))⟩))))
   go_roundg k1
   case measure=>have:=HK1.out;omega
   case rel=>exact ⟨(wrap64 (x5_1 + 1)),aq6,H',⟨aq56⟩,aq13⟩
end Go.Proofs.YtldhkbiomingbaaGreatDoor.F

namespace Go.Proofs.YtldhkbiomingbaaGreatDoor.F
open Go.Proofs.YtldhkbiomingbaaGreatDoor
open Go.RowKit Go.YW.PrintWords Go.YW.PrintLast Go.YW.PrintMore Go.Lib
attribute [local go_sem] max2_int min2_int
theorem at_rowK {α:Type} {d:Kd α} {t:TypeId} {w:World} {A:Option Addr} {n:Nat} {xs:List (List α)} (h:Kd.C (Kd.slice t d) w A n xs) (i:Nat) (h1:i < n) :
  ∃ b o A0 c0,A = some ⟨b,o,none⟩ ∧ w.cell? ⟨b,o + i,none⟩ = some (.slice A0 (xs.getD i []).length c0) ∧ (xs.getD i []).length ≤ c0 ∧ d.C w A0 (xs.getD i []).length (xs.getD i []):=by
 have one:∀ j:Nat,j < n → ∃ ad A0 c0,A = some ad ∧ w.cell? (ad.add j) = some (.slice A0 (xs.getD j []).length c0) ∧ (xs.getD j []).length ≤ c0 ∧ d.C w A0 (xs.getD j []).length (xs.getD j []):=fun j hj=>by
  obtain ⟨ad,c,e,_,hK,hc0⟩:=Kd.C_get h ([]:List α) (j:Int) o_m o_m
  have hc:∀ m u,c[m]? = some u → w.cell? (ad.add ((j:Int).toNat * 1 + m)) = some u:=hc0
  rw [Int.toNat_natCast] at hK hc
  obtain ⟨A0,c0,rfl,l0,g0⟩:=hK
  refine ⟨ad,A0,c0,e,?_,l0,g0⟩
  have:=hc 0 _ rfl
  rwa [show j * 1 + 0 = j by omega] at this
 obtain ⟨ad,_,_,e0,hq0,_⟩:=one 0 o_m
 obtain ⟨b,o,sp⟩:=ad
 have esp:sp = none:=by
  have:(⟨b,o,sp⟩:Addr).add 0 = ⟨b,o,sp⟩:=by unfold Addr.add;split <;> simp_all
  rw [this] at hq0
  exact spot_plain hq0
 subst esp
 obtain ⟨ad,A0,c0,e,hq,h3,h4⟩:=one i h1
 rw [e0] at e
 injection e with e
 subst e
 refine ⟨b,o,A0,c0,e0,?_,h3,h4⟩
 have e2:(⟨b,o,none⟩:Addr).add i = ⟨b,o + i,none⟩:=by unfold Addr.add;split <;> simp_all
 rw [e2] at hq
 exact hq
def impl_ClassesReached.f (t:ByteArray):Option (List (List ByteArray) × Bool):=if t.size < 4294967281 then some (classA t) else none
theorem pair_at {N:List (List Nat)} {n i j:Nat} {A:Option Addr} {w:World} (hi:i < n) (hj:j < n) (hC:Kd.C (Kd.slice 4 Kd.bool) w A n ((List.range n).map (fromB N n))) :
  ∃ b o g1 o1 c1 g2 o2 c2,A = some ⟨b,o,none⟩ ∧ w.cell? ⟨b,o + i,none⟩ = some (.slice (some ⟨g1,o1,none⟩) n c1) ∧ w.cell? ⟨g1,o1 + j,none⟩ = some (.bool ((fromB N n i).getD j false)) ∧
   w.cell? ⟨b,o + j,none⟩ = some (.slice (some ⟨g2,o2,none⟩) n c2) ∧ w.cell? ⟨g2,o2 + i,none⟩ = some (.bool ((fromB N n j).getD i false)):=by
 have row:∀ i,i < n → ((List.range n).map (fromB N n)).getD i [] = fromB N n i:=fun i hi=>by
  rw [List.getD_eq_getElem?_getD,List.getElem?_map,List.getElem?_range hi];rfl
 have one:∀ x y,x < n → y < n → ∃ b o g1 o1 c1,A = some ⟨b,o,none⟩ ∧ w.cell? ⟨b,o + x,none⟩ = some (.slice (some ⟨g1,o1,none⟩) n c1) ∧ w.cell? ⟨g1,o1 + y,none⟩ = some (.bool ((fromB N n x).getD y false)):=fun x y hx hy=>by
  obtain ⟨b,o,A1,c1,rfl,hz,_,hC1⟩:=at_rowK hC x hx
  rw [row x hx,fromB_len] at hz hC1
  obtain ⟨g1,o1,rfl,_,hcs⟩:=C_place hC1 o_m
  exact ⟨b,o,g1,o1,c1,rfl,hz,hcs y _ (by rw [List.getElem?_eq_getElem (by rw [fromB_len];exact hy),List.getD_eq_getElem?_getD,List.getElem?_eq_getElem (by rw [fromB_len];exact hy)];rfl)⟩
 obtain ⟨b,o,g1,o1,c1,e1,h1,h2⟩:=one i j hi hj
 obtain ⟨b',o',g2,o2,c2,e2,h3,h4⟩:=one j i hj hi
 rw [e1] at e2
 injection e2 with e2
 injection e2 with e3 e4
 subst e3 e4
 exact ⟨b,o,g1,o1,c1,g2,o2,c2,e1,h1,h2,h3,h4⟩
theorem impl_ClassesReached.calls (a0:ByteArray) (r1:List (List ByteArray)) (r2:Bool) (w:World) (h:impl_ClassesReached.f a0 = some (r1,r2)) :
  Calls Tryz.prog 44 #[.string a0] w fun e w'=>∃ v0_:Value,e = .returned (.tuple #[v0_,.bool r2]) ∧ Kd.S (Kd.slice 9 Kd.string) 35 w' w.heap.size (fun _=>True) v0_ r1 ∧ Below w.heap.size w w':=by
 unfold impl_ClassesReached.f at h
 by_cases hsz:a0.size < 4294967281
 case neg=>rw [if_neg hsz] at h;cases h
 rw [if_pos hsz] at h
 have HR:=am (Option.some.inj h)
 clear h
 cases hs:srch a0 with
 | none =>
  have HC:=am (reachOf_none hsz hs)
  obtain ⟨rfl,rfl⟩:[] = r1 ∧ false = r2:=by have h:=HR.out;unfold classA at h;rw [hs] at h;exact Prod.mk.inj h
  clear hs HR hsz
  go_enter Tryz.func44,Tryz.ntmps44
  go_wp2_with (first
   | (go_at_call 74;refine (impl_reachOf.calls a0 _ _ _ _ _ _ HC.out).mono ?_;rintro e w1 ⟨v0,v1,v2,v3,rfl,ho0,ho1,ho2,ho3,hb1⟩;obtain ⟨A0,c0,rfl⟩:=Kd.R_slice ho0;obtain ⟨A1,c1,rfl⟩:=Kd.R_slice ho1;obtain ⟨A2,c2,rfl⟩:=Kd.S_slice ho2;obtain ⟨A3,c3,rfl⟩:=Kd.R_slice ho3;have HB1:=am hb1;clear ho0 ho1 ho2 ho3 hb1)
   | (refine bx 4 #[.slice none 0 0,.slice none 0 0,.slice none 0 0,.slice none 0 0] 59 ?_;intro b4 hg4 w2 hbox2 hb2;obtain ⟨y0,y1,y2,y3,f0,f1,f2,f3⟩:=blk4_ hbox2;have X2:=am hbox2;have HB2:=am hb2;have G4:=am hg4;clear hg4 hbox2 hb2))
  go_ret2
  exact ⟨_,rfl,Kd.S_nil _ _ _ _ _,below_set4 (below_step HB1.out HB2.out) (by rw [G4.out];exact HB1.out.size) _ _ _ _⟩
 | some q =>
  obtain ⟨gw,gh,s⟩:=q
  obtain ⟨cs,_,_,_,_,o2⟩:=srch_some hs
  have HC:=am (reachOf_some hsz hs)
  have HO2:=am o2
  obtain ⟨hr1,rfl⟩:foldC (fun j=>textB (gw,gh,s.T.getD j [])) s.N s.T.length (firsts (mutB s.N s.T.length) s.T.length) = r1 ∧ true = r2:=by have h:=HR.out;unfold classA at h;rw [hs] at h;exact Prod.mk.inj h
  have HR1:=am hr1
  clear hr1
  obtain ⟨K,hK⟩:=reaching_ev (w:=gw) (h:=gh) o2 (castsI s.F) (rW s)
  have HK:=am (hK K (Nat.le_refl _))
  clear hs o2 HR hsz hK
  obtain ⟨TT,hTT⟩:∃ x,rT gw gh s = x:=⟨_,rfl⟩
  obtain ⟨FF,hFF⟩:∃ x,castsI s.F = x:=⟨_,rfl⟩
  obtain ⟨WW,hWW⟩:∃ x,rW s = x:=⟨_,rfl⟩
  obtain ⟨NN,hNN⟩:∃ x,s.N.map castsI = x:=⟨_,rfl⟩
  obtain ⟨AL,hAL⟩:∃ x,(List.range s.T.length).map (fromB s.N s.T.length) = x:=⟨_,rfl⟩
  rw [hTT,hFF,hWW,hNN] at HC HK
  rw [hAL] at HK
  have HTT:=am hTT
  have HNN:=am hNN
  have HALL:=am hAL
  have HLT:=am (show TT.length = s.T.length by rw [← hTT,rT_len])
  have HLN:=am (show NN.length = s.T.length by rw [← hNN,List.length_map,HO2.out.lN])
  have HLA:=am (show AL.length = s.T.length by rw [← hAL,List.length_map,List.length_range])
  clear hTT hFF hWW hNN hAL
  go_enter Tryz.func44,Tryz.ntmps44
  go_wp2_with (first
   | (go_at_call 74;refine (impl_reachOf.calls a0 _ _ _ _ _ _ HC.out).mono ?_;rintro e w1 ⟨v0,v1,v2,v3,rfl,ho0,ho1,ho2,ho3,hb1⟩;obtain ⟨A0,c0,rfl⟩:=Kd.R_slice ho0;obtain ⟨A1,c1,rfl⟩:=Kd.R_slice ho1;obtain ⟨A2,c2,rfl⟩:=Kd.S_slice ho2;obtain ⟨A3,c3,rfl⟩:=Kd.R_slice ho3;have HO0:=am (R_true ho0);have HO1:=am ho1;have HP2:=am (Kd.S_mono (ok':=fun _=>True) ho2 (fun _ _=>trivial));have HO3:=am (R_true ho3);have HB1:=am hb1;clear ho0 ho1 ho2 ho3 hb1)
   | (refine bx 4 #[.slice none 0 0,.slice none 0 0,.slice none 0 0,.slice none 0 0] 59 ?_;intro b4 hg4 w2 hbox2 hb2;obtain ⟨y0,y1,y2,y3,f0,f1,f2,f3⟩:=blk4_ hbox2;have X2:=am hbox2;have HB2:=am hb2;have G4:=am hg4;clear hg4 hbox2 hb2)
   | ((with_reducible refine gate_dst (N:=20) rfl ?_);obtain ⟨w3,hw3⟩:∃ w3,set4 w2 b4 (.slice A0 TT.length c0) (.slice A1 FF.length c1) (.slice A2 NN.length c2) (.slice A3 WW.length c3) = w3:=⟨_,rfl⟩;unfold set4 at hw3;rw [hw3];have HW3:=am (show set4 w2 b4 (.slice A0 TT.length c0) (.slice A1 FF.length c1) (.slice A2 NN.length c2) (.slice A3 WW.length c3) = w3 by unfold set4;exact hw3);clear hw3 y0 y1 y2 y3 f0 f1 f2 f3;have HKP:=am (fun k (hk:k < w1.heap.size)=>by rw [← HW3.out,heap_set4 _ _ _ _ _ _ (by rw [G4.out];omega),HB2.out.block k hk]:∀ k,k < w1.heap.size → w3.heap[k]? = w1.heap[k]?);have HQ0:=am (Kd.R_step HO0.out (fun k _ hk=>HKP.out k hk));have HQ1:=am (Kd.R_step HO1.out (fun k _ hk=>HKP.out k hk));have HQ2:=am (Kd.S_step HP2.out (fun k _ hk=>HKP.out k hk));have HQ3:=am (Kd.R_step HO3.out (fun k _ hk=>HKP.out k hk));have hx3:=blk_set4 X2.out (.slice A0 TT.length c0) (.slice A1 FF.length c1) (.slice A2 NN.length c2) (.slice A3 WW.length c3);rw [HW3.out] at hx3;have X3:=am hx3;obtain ⟨y0,y1,y2,y3,f0,f1,f2,f3⟩:=blk4_ hx3;have HG4:=am (show w.heap.size ≤ b4 by rw [G4.out];exact HB1.out.size);have HB3:=am (show Below w.heap.size w w3 by rw [← HW3.out];exact below_set4 (below_step HB1.out HB2.out) HG4.out _ _ _ _);clear hx3)
   | (go_at_call 77;refine (impl_reach_reaching.calls K _ _ TT _ _ FF _ _ NN _ _ WW AL _ (Kd.R_reads' HQ0.out).2.2 (Kd.R_reads' HQ0.out).2.1 (Kd.R_reads' HQ1.out).2.2 (Kd.R_reads' HQ1.out).2.1 (Kd.S_reads' HQ2.out).2.2 (Kd.S_reads' HQ2.out).2.1 (Kd.R_reads' HQ3.out).2.2 (Kd.R_reads' HQ3.out).2.1 HK.out).mono ?_;rintro e w4 ⟨v4,rfl,ho4,hb4⟩;obtain ⟨A4,c4,rfl⟩:=Kd.S_slice ho4;have HC4:=am (Kd.S_reads' ho4).2.2;have HB4:=am (below_step HB3.out hb4);have X4:=am (blk_below X3.out hb4);have HT4:=am (Kd.C_below (Kd.R_reads' HQ0.out).2.2 hb4);have HN4:=am (Kd.C_below (Kd.S_reads' HQ2.out).2.2 hb4);clear ho4 hb4 y0 y1 y2 y3 f0 f1 f2 f3)
   | ((with_reducible refine gate_dst (N:=22) rfl ?_);refine Kd.S_lit (Kd.slice 9 Kd.string) _ 35 ?hg (N:=22) ?hd (xs:=([]:List (List ByteArray))) (inner:=[]) (ok:=fun _=>True) (okp:=fun _=>True) ?hr ?hp (fun _ hk=>hk) trivial (Below.refl _ _) (Nat.le_refl _) (by simp) ?_;(case hd=>rfl);(case hg=>rfl);(case hr=>first | (go_simp;done) | (go_simp;rfl));(case hp=>exact (Reps.none _ _));intro v5 w5 ho5 hb5 hg5 hn5;obtain ⟨A5,c5,rfl⟩:=Kd.S_slice ho5;have HO5:=am ho5;have HB45:=am hb5;have z0:w5.cell? ⟨b4,0,none⟩ = some (.slice A0 TT.length c0):=(blk_cell (blk_below X4.out hb5) 0).trans rfl;clear ho5 hb5 hg5 hn5))
  rw [HLA.out] at HC4
  have HE:=am (mutual_eqv (N:=s.N) (n:=s.T.length) (fun l hl a ha=>(HO2.out.next l hl).2 a ha):Eqv (mutB s.N s.T.length) s.T.length)
  obtain ⟨TX,hTX⟩:∃ f:Nat → ByteArray,f = fun j=>textB (gw,gh,s.T.getD j []):=⟨_,rfl⟩
  have HTJ:=am (fun j hj=>by rw [← HTT.out,hTX];unfold rT;rw [List.getElem?_map,List.getElem?_eq_getElem hj];show _ = some (textB (gw,gh,s.T.getD j []));rw [getD_lt hj];rfl:∀ j,j < s.T.length → TT[j]? = some (TX j))
  have HTI:=am (fun a b ha hb h=>by
   have hnd:=rT_nodup (w:=gw) (h:=gh) HO2.out.ok
   rw [HTT.out] at hnd
   have e1:=HTJ.out a ha
   have e2:=HTJ.out b hb
   rw [← h] at e2
   have la:a < TT.length:=by rw [HLT.out];exact ha
   have lb:b < TT.length:=by rw [HLT.out];exact hb
   rw [List.getElem?_eq_getElem la] at e1
   rw [List.getElem?_eq_getElem lb] at e2
   have e:=Option.some.inj (e1.trans e2.symm)
   rcases Nat.lt_trichotomy a b with q | q | q
   ·exact absurd e (List.pairwise_iff_getElem.1 hnd a b la lb q)
   ·exact q
   ·exact absurd e.symm (List.pairwise_iff_getElem.1 hnd b a lb la q):∀ a b,a < s.T.length → b < s.T.length → TX a = TX b → a = b)
  rw [← hTX] at HR1
  clear hTX
  have HM:=am HO2.out.ok.most
  obtain ⟨n,hn⟩:∃ n,s.T.length = n:=⟨_,rfl⟩
  obtain ⟨NB,hNB⟩:∃ x,s.N = x:=⟨_,rfl⟩
  rw [← HALL.out] at HC4
  rw [hn,hNB] at HE HC4 HR1
  rw [hn] at HTJ HTI HM
  have HLT2:=am (HLT.out.trans hn)
  have HLA2:=am (HLA.out.trans hn)
  clear HALL HLA HLN HLT HTT HNN HO2 hn hNB
  go_loopw [7,26] (fun v7 v26 wr=>∃ i:Nat,i ≤ n ∧ v26 = .int .i64 i ∧ Aside0 (Kd.S (Kd.slice 9 Kd.string) 35 wr w4.heap.size (fun _=>True) v7 (outC TX NB n i)) ∧ Aside0 (Below w4.heap.size w4 wr)) (fun _ v26 _=>n - (intOf v26).toNat)
  case atStart=>exact ⟨0,Nat.zero_le _,rfl,HO5,HB45⟩
  case round =>
   obtain ⟨i,hi,rfl,HS,HQ⟩:=hrel
   obtain ⟨wo,rfl⟩:∃ W,W = wr:=⟨_,rfl⟩
   by_cases hlt:i < n
   rotate_left
   ·have hge:¬ (i:Int) < (TT.length:Int):=by rw [HLT2.out];omega
    obtain rfl:i = n:=by omega
    obtain ⟨A7,c7,rfl⟩:=Kd.S_slice HS.out
    have HML:=am (show (outC TX NB i i).length < 4000000000 by have:=outC_len (tx:=TX) (N:=NB) (n:=i) i;have:=HM.out;omega)
    have HBQ:=am (below_step HB4.out HQ.out)
    have HPO:=am (outC_pos (tx:=TX) HE.out (Nat.le_refl _))
    clear hi
    go_wp2_with (first
     | (go_at_call 85;refine (sortC_calls HS.out HPO.out HML.out).mono ?_;rintro e w10 ⟨rfl,ys,hp10,hs10,ho10,hb10⟩;have HO10:=am (Kd.S_lower ho10 HB4.out.size);have HB10:=am (hb10 _ HBQ.out HB4.out.size);have HYS:=am (cls_sorted HE.out HTI.out hp10 hs10);clear ho10 hb10 hp10 hs10))
    go_ret2
    exact ⟨_,rfl,by rw [← HR1.out,← HYS.out];exact HO10.out,HB10.out⟩
   have hltI:(i:Int) < (TT.length:Int):=by rw [HLT2.out];omega
   have HL:=am hlt
   have hw1:IntKind.i64.wrap ((i:Int) + 1) = ((i + 1:Nat):Int):=by rw [IntKind.wrap_i64];have:=HM.out;omega
   have HTK:=am (outC_succ (tx:=TX) (N:=NB) (n:=n) i)
   have HOL:=am (outC_len (tx:=TX) (N:=NB) (n:=n) i)
   obtain ⟨OC,hOC⟩:∃ x,outC TX NB n i = x:=⟨_,rfl⟩
   rw [hOC] at HS HTK HOL
   obtain ⟨A7,c7,rfl⟩:=Kd.S_slice HS.out
   clear hlt hi hOC
   go_wp2_with (first
    | ((with_reducible refine gate_dst (N:=29) rfl ?_);refine Kd.R_lit Kd.string _ 9 ?hg (N:=29) ?hd (xs:=([]:List ByteArray)) (inner:=[]) (ok:=fun _=>True) (okp:=fun _=>True) ?hr ?hp (fun _ hk=>hk) trivial (Below.refl _ _) (Nat.le_refl _) (by simp) ?_;(case hd=>rfl);(case hg=>rfl);(case hr=>first | (go_simp;done) | (go_simp;rfl));(case hp=>exact (Reps.none _ _));intro v6 w6 ho6 hb6 hg6 hn6;obtain ⟨A6,c6,rfl⟩:=Kd.R_slice ho6;have HO6:=am ho6;have HB6:=am hb6;have z1:w6.cell? ⟨b4,0,none⟩ = some (.slice A0 TT.length c0):=(blk_cell (blk_below X4.out (below_step HQ.out hb6)) 0).trans rfl;clear ho6 hb6 hg6 hn6))
   go_loopw [9,10,33] (fun v9 v10 v33 wq=>∃ j:Nat,j ≤ n ∧ v33 = .int .i64 j ∧ v10 = .bool (fstP (mutB NB n) i j) ∧ Aside0 (Kd.R Kd.string 9 wq wo.heap.size (fun _=>True) v9 (classR TX NB n i j)) ∧ Aside0 (Below wo.heap.size wo wq)) (fun _ _ v33 _=>n - (intOf v33).toNat)
   case atStart=>exact ⟨0,Nat.zero_le _,rfl,rfl,HO6,HB6⟩
   case round =>
    obtain ⟨j,hj,rfl,rfl,HC,HQ2⟩:=hrel
    obtain ⟨A9,c9,rfl⟩:=Kd.R_slice HC.out
    have HQ3:=am (below_step HQ.out HQ2.out)
    by_cases hlt2:j < n
    rotate_left
    ·have hge:¬ (j:Int) < (TT.length:Int):=by rw [HLT2.out];omega
     obtain rfl:j = n:=by omega
     have HCL:=am (show (classR TX NB j i j).length ≤ j from classR_len)
     have HSW:=am (Kd.S_below HS.out HQ2.out)
     obtain ⟨cl,hcl⟩:∃ x,classR TX NB j i j = x:=⟨_,rfl⟩
     obtain ⟨fs,hfs⟩:∃ x,fstP (mutB NB j) i j = x:=⟨_,rfl⟩
     rw [hcl] at HC HTK HCL ⊢
     rw [hfs] at HTK ⊢
     clear hj hcl hfs
     cases fs with
     | true =>
      have HTK2:=am (show outC TX NB j (i + 1) = OC ++ [sortB cl] by rw [HTK.out,if_pos rfl])
      have HAL:=am (show (OC.length + 1) * 24 ≤ 140737488355328 by have:=HOL.out;have:=HL.out;have:=HM.out;omega)
      have HML:=am (show cl.length < 4000000000 by have:=HCL.out;have:=HM.out;omega)
      go_wp2_with (first
       | (go_at_call 75;refine (sort_string_calls HC.out HML.out).mono ?_;rintro e w12 ⟨rfl,ho12,hb12,hs12,hk12⟩;have HO12:=am ho12;have HQ12:=am (hb12 wo HQ2.out (Nat.le_refl _));clear ho12 hb12 hs12 hk12)
       | ((with_reducible refine gate_builtin (b:=.append) (xs:=#[.tmp 68,.tmp 70]) rfl ?_);at_builtin;refine Kd.S_append (Kd.slice 9 Kd.string) (w0:=w4) w4.heap.size rfl (.tmp 68) (.tmp 70) 52 35 (.slice none 0 0) 24 rfl Tryz.underlying52 infoSS rfl d_c o_m (.slice A7 OC.length c7) OC (sortB cl) [.slice A9 cl.length c9] (fun _=>True) (fun k_=>some k_ = (.slice A9 cl.length c9:Value).ownBlock) rfl rfl ?aP (fun k_ hk_=>⟨trivial,fun e_=>by have h1:=Kd.R_base HO12.out k_ hk_.symm;have h2:=Kd.S_lt HS.out k_ e_.symm;omega⟩) ?aF ?aO ?aB ?aS ?aL ?_;(case aP=>exact Kd.M_row (Kd.R_lower (Kd.R_mono (Kd.R_tight rfl HO12.out) (fun _ h_=>h_)) HQ.out.size));(case aB=>exact (below_step HQ.out HQ12.out));(case aF=>exact (fun _ _=>trivial));(case aO=>exact Kd.S_mono (Kd.S_old HS.out HQ12.out) (fun k_ hk_=>⟨trivial,fun e_=>by have h1:=Kd.R_base HO12.out k_ e_.symm;have h2:=hk_.2;omega⟩));(case aS=>exact (below_step HQ.out HQ12.out).size);(case aL=>exact HAL.out);intro v13 w13 ho13 hb13 hg13 hat13;have HO13:=am ho13;have HQ13:=am hb13;clear ho13 hb13 hg13 hat13))
      go_roundw
      case rel=>exact ⟨i + 1,HL.out,by first | rfl | simp,⟨by rw [HTK2.out];exact HO13.out⟩,HQ13⟩
      case measure=>have:=HL.out;simp [intOf];omega
     | false =>
      have HTK2:=am (show outC TX NB j (i + 1) = OC by rw [HTK.out,if_neg Bool.false_ne_true])
      go_wp2
      go_roundw
      case rel=>exact ⟨i + 1,HL.out,by first | rfl | simp,⟨by rw [HTK2.out];exact HSW.out⟩,HQ3⟩
      case measure=>have:=HL.out;simp [intOf];omega
    have hltJ:(j:Int) < (TT.length:Int):=by rw [HLT2.out];omega
    have hjn:(j:Int) < (n:Int):=by omega
    have hin:(i:Int) < (n:Int):=by have:=HL.out;omega
    have hiA:(i:Int) < (AL.length:Int):=by rw [HLA2.out];omega
    have hjA:(j:Int) < (AL.length:Int):=by rw [HLA2.out];omega
    obtain ⟨bT,oT,rfl,hbT,hcT⟩:=C_place HT4.out o_m
    have zT:wr.cell? ⟨bT,oT + j,none⟩ = some (.string (TX j)):=(HQ3.out.cell (p:=⟨bT,oT + j,none⟩) hbT).trans (hcT j _ (HTJ.out j hlt2))
    obtain ⟨bA,oA,g1,o1,c1_,g2,o2,c2_,rfl,y1,y2,y3,y4⟩:=pair_at HL.out hlt2 (Kd.C_below HC4.out HQ3.out)
    have hw2:IntKind.i64.wrap ((j:Int) + 1) = ((j + 1:Nat):Int):=by rw [IntKind.wrap_i64];have:=HM.out;omega
    have HCS:=am (classR_succ (tx:=TX) (N:=NB) (n:=n) (i:=i) (m:=j))
    have HFS:=am (fstP_succ (mutB NB n) i j)
    have HMU:=am (show mutB NB n i j = ((fromB NB n i).getD j false && (fromB NB n j).getD i false) from rfl)
    have HCL:=am (show (classR TX NB n i j).length ≤ j from classR_len)
    have HAL:=am (show ((classR TX NB n i j).length + 1) * 16 ≤ 140737488355328 by have:=HCL.out;have:=HM.out;omega)
    have HJ:=am hlt2
    obtain ⟨tx,htx⟩:∃ x,TX j = x:=⟨_,rfl⟩
    obtain ⟨cl,hcl⟩:∃ x,classR TX NB n i j = x:=⟨_,rfl⟩
    obtain ⟨q1,hq1⟩:∃ x,(fromB NB n i).getD j false = x:=⟨_,rfl⟩
    obtain ⟨q2,hq2⟩:∃ x,(fromB NB n j).getD i false = x:=⟨_,rfl⟩
    obtain ⟨fs,hfs⟩:∃ x,fstP (mutB NB n) i j = x:=⟨_,rfl⟩
    rw [htx] at zT HCS
    rw [hcl] at HC HCS HAL
    rw [hq1] at y2 HMU
    rw [hq2] at y4 HMU
    rw [hfs] at HFS ⊢
    rw [hcl]
    clear hlt2 hj hcT hbT htx hcl hq1 hq2 hfs HCL
    cases q1 with
    | false =>
     have HCS2:=am (show classR TX NB n i (j + 1) = cl by rw [HCS.out,if_neg (by rw [HMU.out];simp)])
     have HFS2:=am (show fstP (mutB NB n) i (j + 1) = fs by rw [HFS.out,HMU.out];simp)
     go_wp2
     go_roundw
     case rel=>exact ⟨j + 1,HJ.out,by first | rfl | simp,by rw [HFS2.out],⟨by rw [HCS2.out];exact HC.out⟩,HQ2⟩
     case measure=>have:=HJ.out;simp [intOf];omega
    | true =>
     cases q2 with
     | false =>
      have HCS2:=am (show classR TX NB n i (j + 1) = cl by rw [HCS.out,if_neg (by rw [HMU.out];simp)])
      have HFS2:=am (show fstP (mutB NB n) i (j + 1) = fs by rw [HFS.out,HMU.out];simp)
      go_wp2
      go_roundw
      case rel=>exact ⟨j + 1,HJ.out,by first | rfl | simp,by rw [HFS2.out],⟨by rw [HCS2.out];exact HC.out⟩,HQ2⟩
      case measure=>have:=HJ.out;simp [intOf];omega
     | true =>
      have HCS2:=am (show classR TX NB n i (j + 1) = cl ++ [tx] by rw [HCS.out,if_pos (by rw [HMU.out];rfl)])
      have HFS2:=am (show fstP (mutB NB n) i (j + 1) = (fs && decide ((i:Int) ≤ (j:Int))) by rw [HFS.out,HMU.out];simp)
      cases fs with
      | false =>
       go_wp2_with (first
        | ((with_reducible refine gate_builtin (b:=.append) (xs:=#[.tmp 54,.tmp 56]) rfl ?_);at_builtin;refine Kd.R_append Kd.string (w0:=wo) wo.heap.size rfl (.tmp 54) (.tmp 56) 35 9 (.string ByteArray.empty) 16 rfl Tryz.underlying35 info9 rfl d_c o_m (.slice A9 cl.length c9) cl tx [.string tx] (fun _=>True) (fun _=>False) rfl rfl ?aP (fun _ hk=>hk.elim) ?aF ?aO ?aB ?aS ?aL ?_;(case aP=>exact rfl);(case aB=>exact HQ2.out);(case aF=>exact (fun _ _=>trivial));(case aO=>exact HC.out);(case aS=>exact HQ2.out.size);(case aL=>exact HAL.out);intro v11 w11 ho11 hb11 hg11 hat11;have HO11:=am ho11;have HQ11:=am hb11;clear ho11 hb11 hg11 hat11))
       go_roundw
       case rel=>exact ⟨j + 1,HJ.out,by first | rfl | simp,by rw [HFS2.out];rfl,⟨by rw [HCS2.out];exact HO11.out⟩,HQ11⟩
       case measure=>have:=HJ.out;simp [intOf];omega
      | true =>
       go_wp2_with (first
        | ((with_reducible refine gate_builtin (b:=.append) (xs:=#[.tmp 54,.tmp 56]) rfl ?_);at_builtin;refine Kd.R_append Kd.string (w0:=wo) wo.heap.size rfl (.tmp 54) (.tmp 56) 35 9 (.string ByteArray.empty) 16 rfl Tryz.underlying35 info9 rfl d_c o_m (.slice A9 cl.length c9) cl tx [.string tx] (fun _=>True) (fun _=>False) rfl rfl ?aP (fun _ hk=>hk.elim) ?aF ?aO ?aB ?aS ?aL ?_;(case aP=>exact rfl);(case aB=>exact HQ2.out);(case aF=>exact (fun _ _=>trivial));(case aO=>exact HC.out);(case aS=>exact HQ2.out.size);(case aL=>exact HAL.out);intro v11 w11 ho11 hb11 hg11 hat11;have HO11:=am ho11;have HQ11:=am hb11;clear ho11 hb11 hg11 hat11))
       go_roundw
       case rel=>exact ⟨j + 1,HJ.out,by first | rfl | simp,by rw [HFS2.out];first | rfl | simp,⟨by rw [HCS2.out];exact HO11.out⟩,HQ11⟩
       case measure=>have:=HJ.out;simp [intOf];omega
theorem l1Own_f {l:List ByteArray} (h:l.length < 8796093022208):spec_l1OwnS.f l = some l:=by
 unfold spec_l1OwnS.f
 rw [Option.bind_some,if_pos (by rw [List.length_nil];omega)];rfl
def spec_ClassesH.f (t:ByteArray):Option (List (List ByteArray) × Bool):=some (classA t)
theorem spec_ClassesH.calls (a0:ByteArray) (r1:List (List ByteArray)) (r2:Bool) (w:World) (h:spec_ClassesH.f a0 = some (r1,r2)) :
  Calls Tryz.prog 43 #[.string a0] w fun e w'=>∃ v0_:Value,e = .returned (.tuple #[v0_,.bool r2]) ∧ Kd.N (Kd.slice 9 Kd.string) 35 w' w.heap.size (fun k_=>(w.heap.size ≤ k_)) v0_ r1 ∧ Below w.heap.size w w':=by
 have HR:=am (show classA a0 = (r1,r2) from Option.some.inj h)
 clear h
 cases hs:srch a0 with
 | none =>
  have HA:=am (show spec_reAll.f a0 = some ([],false) by unfold spec_reAll.f;rw [hs])
  obtain ⟨rfl,rfl⟩:[] = r1 ∧ false = r2:=by have h:=HR.out;unfold classA at h;rw [hs] at h;exact Prod.mk.inj h
  clear hs HR
  go_enter Tryz.func43,Tryz.ntmps43
  go_wp2_with (first
   | (go_at_call 72;refine (spec_reAll.calls a0 _ _ _ HA.out).mono ?_;rintro e w1 ⟨v1,rfl,ho1,hb1⟩;obtain ⟨A1,c1,rfl⟩:=Kd.R_slice ho1;have HB1:=am hb1;clear ho1 hb1))
  go_loopw [6,25] (fun v6 v25 wr=>v6 = .slice none 0 0 ∧ v25 = .int .i64 0 ∧ Aside0 (Below w.heap.size w wr)) (fun _ _ _=>0)
  case atStart=>exact ⟨rfl,rfl,HB1⟩
  case round =>
   obtain ⟨rfl,rfl,HQ⟩:=hrel
   obtain ⟨wo,rfl⟩:∃ W,W = wr:=⟨_,rfl⟩
   go_wp2_with (first
    | ((with_reducible refine gate_dst (N:=37) rfl ?_);refine Kd.R_make Kd.bool _ 4 rfl (N:=37) rfl 81 _ _ rfl (0:Int) rfl rfl Tryz.underlying81 (.bool false) 1 info4 rfl d_c o_m false (ok:=fun _=>True) (okp:=fun _=>True) rfl (fun _ hk=>hk) trivial d_c d_c (Below.refl _ _) (Nat.le_refl _) ?_;intro v5 w5 ho5 hb5 hg5 hn5;obtain ⟨A5,c5,rfl⟩:=Kd.R_slice ho5;have HB5:=am (below_step HQ.out hb5);clear ho5 hb5 hg5 hn5))
   go_loopw [8,9,40] (fun v8 v9 v40 wr=>v8 = .slice none 0 0 ∧ v9 = .slice none 0 0 ∧ v40 = .int .i64 0 ∧ Aside0 (Below w.heap.size w wr)) (fun _ _ _ _=>0)
   case atStart=>exact ⟨rfl,rfl,rfl,HB5⟩
   case round =>
    obtain ⟨rfl,rfl,rfl,HQ2⟩:=hrel
    go_wp2
    go_ret2
    exact ⟨_,rfl,Kd.N_nil _ _ _ _ _,HQ2.out⟩
 | some q =>
  obtain ⟨gw,gh,s⟩:=q
  obtain ⟨cs,_,_,_,_,o2⟩:=srch_some hs
  have HA:=am (show spec_reAll.f a0 = some (nodesOf gw gh s,true) by unfold spec_reAll.f;rw [hs])
  have HO2:=am o2
  obtain ⟨hr1,rfl⟩:foldC (fun j=>textB (gw,gh,s.T.getD j [])) s.N s.T.length (firsts (mutB s.N s.T.length) s.T.length) = r1 ∧ true = r2:=by have h:=HR.out;unfold classA at h;rw [hs] at h;exact Prod.mk.inj h
  have HR1:=am hr1
  clear hs o2 HR hr1
  go_enter Tryz.func43,Tryz.ntmps43
  go_wp2_with (first
   | (go_at_call 72;refine (spec_reAll.calls a0 _ _ _ HA.out).mono ?_;rintro e w3 ⟨v3,rfl,ho3,hb3⟩;have HB3:=am hb3;obtain ⟨b,o,c,rfl,hc,hst⟩:=states_open HO2.out ho3;obtain ⟨b',o',c',e',hc',_,hat'⟩:=nodes_open ho3 (nodesOf_ne HO2.out.ok);rw [nodesOf_len] at e' hc';injection e' with e1 _ e2;injection e1 with e1;injection e1 with e1 e3;subst e1 e2 e3;have HST:=am hst;have HNC:=am hat';have HC3:=am hc;clear ho3 hb3 hst hat' hc hc'))
  have HFR:=am (fun W (hB:Below w3.heap.size w3 W) i0 (hi0:i0 < s.T.length)=>by
   refine reFrom_calls b o c s.T.length i0 (nodesOf gw gh s) s.N W HC3.out (nodesOf_len _ _ _) (by have:=HO2.out.ok.most;omega) hi0 (fun l hl=>(HO2.out.next l hl).2) (fun i=>?_) (fun i hi=>?_) (fun W' hB' i hi=>HNC.out W' (below_step hB hB') i hi)
   ·by_cases hi:i < s.N.length
    rotate_left
    ·rw [List.getD_eq_getElem?_getD,List.getElem?_eq_none o_m];decide
    have:=(HO2.out.next _ (getD_mem (d:=([]:List Nat)) hi)).1
    omega
   ·rw [nodesOf_get]
    show castsI (if i < s.N.length then s.N.getD i [] else if i = s.N.length then [] else []) = _
    rw [if_pos (by rw [HO2.out.lN];rw [nodesOf_len] at hi;exact hi)];rfl:∀ W,Below w3.heap.size w3 W → ∀ i0,i0 < s.T.length → Calls Tryz.prog 76 #[.slice (some ⟨b,o,none⟩) s.T.length c,.int .i64 i0] W fun e w'=>∃ v,e = .returned v ∧ Kd.R Kd.bool 4 w' W.heap.size (fun _=>True) v (fromB s.N s.T.length i0) ∧ Below W.heap.size W w')
  have HTX:=am (fun j (hj:j < s.T.length)=>by
   obtain ⟨p,_,_,_,_,zp,_,_,_,z3,_⟩:=HST.out w3 (Below.refl _ _) j hj
   exact ⟨p,zp,z3⟩:∀ j,j < s.T.length → ∃ p,w3.cell? ⟨b,o + j,none⟩ = some (.pointer (some ⟨p,0,none⟩)) ∧ w3.cell? ⟨p,3,none⟩ = some (.string (textB (gw,gh,s.T.getD j []))))
  obtain ⟨TX,hTX⟩:∃ f:Nat → ByteArray,f = fun j=>textB (gw,gh,s.T.getD j []):=⟨_,rfl⟩
  have HTX2:=am (fun j hj=>by rw [hTX];exact HTX.out j hj:∀ j,j < s.T.length → ∃ p,w3.cell? ⟨b,o + j,none⟩ = some (.pointer (some ⟨p,0,none⟩)) ∧ w3.cell? ⟨p,3,none⟩ = some (.string (TX j)))
  have HE:=am (mutual_eqv (N:=s.N) (n:=s.T.length) (fun l hl a ha=>(HO2.out.next l hl).2 a ha):Eqv (mutB s.N s.T.length) s.T.length)
  have HM:=am HO2.out.ok.most
  have HPOS:=am HO2.out.ok.pos
  rw [← hTX] at HR1
  clear hTX HNC HST HTX
  obtain ⟨n,hn⟩:∃ n,s.T.length = n:=⟨_,rfl⟩
  obtain ⟨NB,hNB⟩:∃ x,s.N = x:=⟨_,rfl⟩
  rw [hn,hNB] at HE HR1 HFR
  rw [hn] at HTX2 HM HPOS
  rw [hn]
  clear HO2 hn hNB HC3
  go_loopw [6,25] (fun v6 v25 wr=>∃ i:Nat,i ≤ n ∧ v25 = .int .i64 i ∧ Aside0 (Kd.S (Kd.slice 4 Kd.bool) 81 wr w3.heap.size (fun _=>True) v6 ((List.range i).map (fromB NB n))) ∧ Aside0 (Below w3.heap.size w3 wr)) (fun _ v25 _=>n - (intOf v25).toNat)
  case atStart=>exact ⟨0,Nat.zero_le _,rfl,⟨Kd.S_nil _ _ _ _ _⟩,⟨Below.refl _ _⟩⟩
  case round =>
   obtain ⟨i,hi,rfl,HS,HQ⟩:=hrel
   obtain ⟨wo,rfl⟩:∃ W,W = wr:=⟨_,rfl⟩
   obtain ⟨A6,c6,rfl⟩:=Kd.S_slice HS.out
   have HLR:=am (show ((List.range i).map (fromB NB n)).length = i by simp)
   by_cases hlt:i < n
   ·have hltI:(i:Int) < (n:Int):=by omega
    have HL:=am hlt
    have hw1:IntKind.i64.wrap ((i:Int) + 1) = ((i + 1:Nat):Int):=by rw [IntKind.wrap_i64];have:=HM.out;omega
    have HTK:=am (show (List.range (i + 1)).map (fromB NB n) = (List.range i).map (fromB NB n) ++ [fromB NB n i] by rw [List.range_succ,List.map_append];rfl)
    obtain ⟨RB,hRB⟩:∃ x,(List.range i).map (fromB NB n) = x:=⟨_,rfl⟩
    rw [hRB] at HS HTK HLR ⊢
    have HAL:=am (show (RB.length + 1) * 24 ≤ 140737488355328 by have:=HLR.out;have:=HM.out;omega)
    clear hlt hi hRB
    go_wp2_with (first
     | (go_at_call 76;refine (HFR.out _ HQ.out i HL.out).mono ?_;rintro e w5 ⟨v5,rfl,ho5,hb5⟩;obtain ⟨A5,c5,rfl⟩:=Kd.R_slice ho5;have HO5:=am ho5;have HB5:=am hb5;clear ho5 hb5)
     | ((with_reducible refine gate_builtin (b:=.append) (xs:=#[.tmp 28,.tmp 32]) rfl ?_);at_builtin;refine Kd.S_append (Kd.slice 4 Kd.bool) (w0:=w3) w3.heap.size rfl (.tmp 28) (.tmp 32) 100 81 (.slice none 0 0) 24 rfl Tryz.underlying100 info81 rfl d_c o_m (.slice A6 RB.length c6) RB (fromB NB n i) [.slice A5 (fromB NB n i).length c5] (fun _=>True) (fun k_=>some k_ = (.slice A5 (fromB NB n i).length c5:Value).ownBlock) rfl rfl ?aP (fun k_ hk_=>⟨trivial,fun e_=>by have h1:=Kd.R_base HO5.out k_ hk_.symm;have h2:=Kd.S_lt HS.out k_ e_.symm;omega⟩) ?aF ?aO ?aB ?aS ?aL ?_;(case aP=>exact Kd.M_row (Kd.R_lower (Kd.R_mono (Kd.R_tight rfl HO5.out) (fun _ h_=>h_)) HQ.out.size));(case aB=>exact (below_step HQ.out HB5.out));(case aF=>exact (fun _ _=>trivial));(case aO=>exact Kd.S_mono (Kd.S_old HS.out HB5.out) (fun k_ hk_=>⟨trivial,fun e_=>by have h1:=Kd.R_base HO5.out k_ e_.symm;have h2:=hk_.2;omega⟩));(case aS=>exact (below_step HQ.out HB5.out).size);(case aL=>exact HAL.out);intro v13 w13 ho13 hb13 hg13 hat13;have HO13:=am ho13;have HQ13:=am hb13;clear ho13 hb13 hg13 hat13))
    go_roundw
    case rel=>exact ⟨i + 1,HL.out,by first | rfl | simp,⟨by rw [HTK.out];exact HO13.out⟩,HQ13⟩
    case measure=>have:=HL.out;simp [intOf];omega
   have hge:¬ (i:Int) < (n:Int):=by omega
   obtain rfl:i = n:=by omega
   have hge0:(0:Int) ≤ (i:Int):=by omega
   have hle:(i:Int).toNat ≤ 281474976710656:=by have:=HM.out;omega
   have HCB:=am (Kd.S_reads' HS.out).2.2
   rw [HLR.out] at HCB ⊢
   clear hi HS
   go_wp2_with (first
    | ((with_reducible refine gate_dst (N:=37) rfl ?_);refine Kd.R_make Kd.bool _ 4 rfl (N:=37) rfl 81 _ _ rfl (i:Int) rfl rfl Tryz.underlying81 (.bool false) 1 info4 rfl d_c o_m false (ok:=fun _=>True) (okp:=fun _=>True) rfl (fun _ hk=>hk) trivial hge0 (Nat.le_trans (Nat.mul_le_mul_right _ hle) o_m) (Below.refl _ _) (Nat.le_refl _) ?_;intro v7 w7 ho7 hb7 hg7 hn7;rw [Int.toNat_natCast] at ho7;obtain ⟨g,cap,hv7,hgb,hgl,_⟩:=Kd.R_form ho7 (by rw [List.length_replicate];exact HPOS.out);rw [List.length_replicate] at hv7;subst hv7;have HGB:=am hgb;have HO7:=am ho7;have HB7:=am hb7;clear ho7 hb7 hg7 hn7 hgb hgl))
   obtain ⟨n,rfl⟩:∃ m,m = i:=⟨i,rfl⟩
   obtain ⟨wE,rfl⟩:∃ W,W = wo:=⟨_,rfl⟩
   have HE3:=am HQ.out
   clear HQ
   go_loopw [8,9,40] (fun v8 v9 v40 wr=>∃ (i:Nat) (D:List Bool) (L:List Nat),i ≤ n ∧ v40 = .int .i64 i ∧ D.length = n ∧ L.length ≤ i ∧ Aside0 (selS (mutB NB n) n (n - i) i D L = firsts (mutB NB n) n) ∧ Aside0 (Kd.R Kd.string 9 wr wE.heap.size (fun _=>True) v8 ((foldC TX NB n L).map fun c=>c.getD 0 ByteArray.empty)) ∧ Aside0 (Kd.N (Kd.slice 9 Kd.string) 35 wr wE.heap.size (fun k_=>wE.heap.size ≤ k_ ∧ k_ ≠ g) v9 (foldC TX NB n L)) ∧ Aside0 (Kd.R Kd.bool 4 wr wE.heap.size (fun _=>True) (.slice (some ⟨g,0,none⟩) n cap) D) ∧ Aside0 (Below wE.heap.size wE wr)) (fun _ _ v40 _=>n - (intOf v40).toNat)
   case atStart=>exact ⟨0,List.replicate n false,[],Nat.zero_le _,rfl,by simp,Nat.le_refl _,⟨by rw [Nat.sub_zero];exact selS_eq HE.out⟩,⟨Kd.R_nil _ _ _ _ _⟩,⟨Kd.N_nil _ _ _ _ _⟩,HO7,HB7⟩
   case round =>
    obtain ⟨i,D,L,hi,rfl,hDl,hLl,HSEL,H8,H9,HD,HQ⟩:=hrel
    obtain ⟨wi,rfl⟩:∃ W,W = wr:=⟨_,rfl⟩
    by_cases hlt:i < n
    rotate_left
    ·have hge:¬ (i:Int) < (n:Int):=by omega
     obtain rfl:n = i:=by omega
     have HRES:=am (show foldC TX NB n L = r1 by have h:=HSEL.out;rw [Nat.sub_self] at h;unfold selS at h;rw [h];exact HR1.out)
     clear hi
     obtain ⟨A9,c9,rfl⟩:=Kd.N_slice H9.out
     go_wp2
     go_ret2
     exact ⟨_,rfl,by rw [← HRES.out];exact Kd.N_lower (Kd.N_mono H9.out (fun k_ hk_=>Nat.le_trans (below_step HB3.out HE3.out).size hk_.1)) (below_step HB3.out HE3.out).size,below_step (below_step HB3.out HE3.out) HQ.out⟩
    have hltI:(i:Int) < (n:Int):=by omega
    have hw1:IntKind.i64.wrap ((i:Int) + 1) = ((i + 1:Nat):Int):=by rw [IntKind.wrap_i64];have:=HM.out;omega
    obtain ⟨hsa,hsf⟩:=Kd.R_celln false HD.out (i:Int) o_m hltI
    rw [Int.toNat_natCast,rd_bool] at hsa
    have hsel:=HSEL.out
    rw [show n - i = (n - (i + 1)) + 1 by omega] at hsel
    unfold selS at hsel
    have HL:=am hlt
    have HDL:=am hDl
    have HLL:=am hLl
    clear HSEL hlt hi hDl hLl hsf
    cases hd:D.getD i false with
    | true =>
     rw [hd] at hsa
     rw [if_pos hd] at hsel
     have HSEL:=am hsel
     clear hsel hd
     go_wp2
     go_roundw
     case rel=>exact ⟨i + 1,D,L,HL.out,by first | rfl | simp,HDL.out,Nat.le_succ_of_le HLL.out,HSEL,H8,H9,HD,HQ⟩
     case measure=>have:=HL.out;simp [intOf];omega
    | false =>
     rw [hd] at hsa
     rw [if_neg (by rw [hd];exact Bool.false_ne_true)] at hsel
     have HSEL:=am hsel
     clear hsel hd
     go_wp2
     go_loopw [12,49] (fun v12 v49 wr=>∃ j:Nat,j ≤ n ∧ v49 = .int .i64 j ∧ Aside0 (Kd.R Kd.string 9 wr wE.heap.size (fun k_=>wi.heap.size ≤ k_) v12 (classR TX NB n i j)) ∧ Aside0 (Kd.R Kd.bool 4 wr wE.heap.size (fun _=>True) (.slice (some ⟨g,0,none⟩) n cap) (markP NB n i j D)) ∧ Aside0 (Below wE.heap.size wE wr) ∧ Aside0 (∀ k_,k_ < wi.heap.size → k_ ≠ g → wr.heap[k_]? = wi.heap[k_]?) ∧ Aside0 (wi.heap.size ≤ wr.heap.size)) (fun _ v49 _=>n - (intOf v49).toNat)
     case atStart=>exact ⟨0,Nat.zero_le _,rfl,⟨Kd.R_nil _ _ _ _ _⟩,⟨by rw [markP_zero HDL.out];exact HD.out⟩,HQ,⟨fun _ _ _=>rfl⟩,⟨Nat.le_refl _⟩⟩
     case round =>
      obtain ⟨j,hj,rfl,HC,HDD,HQ2,HKK,HSZ⟩:=hrel
      by_cases hlt2:j < n
      ·have hjn:(j:Int) < (n:Int):=by omega
       have hin:(i:Int) < (n:Int):=by have:=HL.out;omega
       have hw2:IntKind.i64.wrap ((j:Int) + 1) = ((j + 1:Nat):Int):=by rw [IntKind.wrap_i64];have:=HM.out;omega
       obtain ⟨A12,c12,rfl⟩:=Kd.R_slice HC.out
       obtain ⟨p,zp0,z30⟩:=HTX2.out j hlt2
       have HQ3:=am (below_step HE3.out HQ2.out)
       have zp:=(HQ3.out.cell (World.block_lt_of_cell? w3 _ zp0)).trans zp0
       obtain ⟨bA,oA,g1,o1,c1_,g2,o2,c2_,rfl,y1,y2,y3,y4⟩:=pair_at HL.out hlt2 (Kd.C_below HCB.out HQ2.out)
       have HCS:=am (classR_succ (tx:=TX) (N:=NB) (n:=n) (i:=i) (m:=j))
       have HMS:=am (markP_succ (N:=NB) (n:=n) (i:=i) (j:=j) (D:=D) hlt2)
       have HMU:=am (show mutB NB n i j = ((fromB NB n i).getD j false && (fromB NB n j).getD i false) from rfl)
       have HAL:=am (show ((classR TX NB n i j).length + 1) * 16 ≤ 140737488355328 by have h1:=classR_len (tx:=TX) (N:=NB) (n:=n) (i:=i) (m:=j);have:=HM.out;omega)
       have HJ:=am hlt2
       obtain ⟨tx,htx⟩:∃ x,TX j = x:=⟨_,rfl⟩
       obtain ⟨cl,hcl⟩:∃ x,classR TX NB n i j = x:=⟨_,rfl⟩
       obtain ⟨q1,hq1⟩:∃ x,(fromB NB n i).getD j false = x:=⟨_,rfl⟩
       obtain ⟨q2,hq2⟩:∃ x,(fromB NB n j).getD i false = x:=⟨_,rfl⟩
       rw [htx] at z30 HCS
       rw [hcl] at HC HCS HAL ⊢
       rw [hq1] at y2 HMU
       rw [hq2] at y4 HMU
       have Z3:=am z30
       clear hlt2 hj htx hcl hq1 hq2 z30 zp0
       cases q1 with
       | false =>
        have HCS2:=am (show classR TX NB n i (j + 1) = cl by rw [HCS.out,if_neg (by rw [HMU.out];simp)])
        have HMS2:=am (show markP NB n i (j + 1) D = markP NB n i j D by rw [HMS.out,if_neg (by rw [HMU.out];simp)])
        go_wp2
        go_roundw
        case rel=>exact ⟨j + 1,HJ.out,by first | rfl | simp,⟨by rw [HCS2.out];exact HC.out⟩,⟨by rw [HMS2.out];exact HDD.out⟩,HQ2,HKK,HSZ⟩
        case measure=>have:=HJ.out;simp [intOf];omega
       | true =>
        cases q2 with
        | false =>
         have HCS2:=am (show classR TX NB n i (j + 1) = cl by rw [HCS.out,if_neg (by rw [HMU.out];simp)])
         have HMS2:=am (show markP NB n i (j + 1) D = markP NB n i j D by rw [HMS.out,if_neg (by rw [HMU.out];simp)])
         go_wp2
         go_roundw
         case rel=>exact ⟨j + 1,HJ.out,by first | rfl | simp,⟨by rw [HCS2.out];exact HC.out⟩,⟨by rw [HMS2.out];exact HDD.out⟩,HQ2,HKK,HSZ⟩
         case measure=>have:=HJ.out;simp [intOf];omega
        | true =>
         have HCS2:=am (show classR TX NB n i (j + 1) = cl ++ [tx] by rw [HCS.out,if_pos (by rw [HMU.out];rfl)])
         have HMS2:=am (show markP NB n i (j + 1) D = (markP NB n i j D).set j true by rw [HMS.out,if_pos (by rw [HMU.out];rfl)])
         obtain ⟨hwa,hwf⟩:=Kd.R_celln false HDD.out (j:Int) o_m hjn
         rw [Int.toNat_natCast] at hwa hwf
         have h1:=Kd.R_putn HDD.out (j:Int) true
         rw [Int.toNat_natCast] at h1
         obtain ⟨gc,hgc⟩:=Kd.R_typed HDD.out g rfl
         have HD2:=am h1
         have HC2:=am (show Kd.R Kd.string 9 (wr.setCell ⟨g,j,none⟩ (.bool true)) wE.heap.size (fun k_=>wi.heap.size ≤ k_) (.slice A12 cl.length c12) cl from Kd.R_reok rfl (R_off (p:=⟨g,j,none⟩) rfl (R_true HC.out) hgc d_c (.bool true)) (fun k_ e_=>HC.out.1 k_ e_))
         have HE2:=am (HQ2.out.setCell (p:=⟨g,j,none⟩) HGB.out (.bool true))
         have HK2:=am (fun k_ (hk_:k_ < wi.heap.size) (hg_:k_ ≠ g)=>(Below.heap_setCell wr ⟨g,j,none⟩ (.bool true) k_ hg_).trans (HKK.out k_ hk_ hg_):∀ k_,k_ < wi.heap.size → k_ ≠ g → (wr.setCell ⟨g,j,none⟩ (.bool true)).heap[k_]? = wi.heap[k_]?)
         have HSZ2:=am (show wi.heap.size ≤ (wr.setCell ⟨g,j,none⟩ (.bool true)).heap.size by simpa using HSZ.out)
         clear h1 hgc
         go_wp2_with (first
          | ((with_reducible refine gate_store (t:=4) (p:=72) rfl ?_);refine store_event (t:=4) (p:=72) (v:=?vo) (w1:=(wr.setCell ⟨g,j,none⟩ (.bool true))) ?hg ?ho ?hn ?hr ?_;(case ho=>rfl);(case hg=>rfl);(case hn=>rfl);(case hr=>first | (go_simp;done) | (go_simp;rfl));intro wz hwz;rw [← hwz] at HD2 HE2 HK2 HSZ2 HC2;clear hwz;have z77:wz.cell? ⟨p,3,none⟩ = some (.string tx):=((below_step HE3.out HE2.out).cell (World.block_lt_of_cell? w3 _ Z3.out)).trans Z3.out)
          | ((with_reducible refine gate_builtin (b:=.append) (xs:=#[.tmp 73,.tmp 78]) rfl ?_);at_builtin;refine Kd.R_append Kd.string (w0:=wE) wE.heap.size rfl (.tmp 73) (.tmp 78) 35 9 (.string ByteArray.empty) 16 rfl Tryz.underlying35 info9 rfl d_c o_m (.slice A12 cl.length c12) cl tx [.string tx] (fun k_=>wi.heap.size ≤ k_) (fun _=>False) rfl rfl ?aP (fun _ hk=>hk.elim) ?aF ?aO ?aB ?aS ?aL ?_;(case aP=>exact rfl);(case aB=>exact HE2.out);(case aF=>exact (fun k_ hk_=>Nat.le_trans HSZ2.out hk_));(case aO=>exact HC2.out);(case aS=>exact HE2.out.size);(case aL=>exact HAL.out);intro v14 w14 ho14 hb14 hg14 hat14;have HO14:=am ho14;have HE14:=am hb14;have HD14:=am (Kd.R_over' HD2.out (Kd.R_typed HC2.out) d_c hg14);have HK14:=am (fun k_ (hk_:k_ < wi.heap.size) (hg_:k_ ≠ g)=>(hg14.block k_ (Nat.lt_of_lt_of_le hk_ HSZ2.out) (fun e_=>by have h1:=HC2.out.1 k_ e_.symm;omega)).trans (HK2.out k_ hk_ hg_):∀ k_,k_ < wi.heap.size → k_ ≠ g → w14.heap[k_]? = wi.heap[k_]?);have HSZ14:=am (Nat.le_trans HSZ2.out (by have:=hg14.size;exact this));clear ho14 hb14 hg14 hat14))
         go_roundw
         case rel=>exact ⟨j + 1,HJ.out,by first | rfl | simp,⟨by rw [HCS2.out];exact HO14.out⟩,⟨by rw [HMS2.out];exact HD14.out⟩,HE14,HK14,HSZ14⟩
         case measure=>have:=HJ.out;simp [intOf];omega
      have hge:¬ (j:Int) < (n:Int):=by omega
      obtain rfl:j = n:=by omega
      obtain ⟨n,rfl⟩:∃ m,m = j:=⟨j,rfl⟩
      obtain ⟨wq,rfl⟩:∃ W,W = wr:=⟨_,rfl⟩
      have hpos:0 < (classR TX NB n i n).length:=classR_pos HE.out.refl HL.out
      have hln:(classR TX NB n i n).length ≤ n:=classR_len
      obtain ⟨KS,hKS⟩:=reSorted_ev (l:=classR TX NB n i n) (Nat.le_trans hln HM.out)
      have HKS:=am (hKS KS (Nat.le_refl _))
      have HCP:=am (show 0 < (sortB (classR TX NB n i n)).length by rw [sortB_len];exact hpos)
      obtain ⟨cs,hcs⟩:∃ x,sortB (classR TX NB n i n) = x:=⟨_,rfl⟩
      rw [hcs] at HKS HCP
      have HCS:=am hcs
      obtain ⟨A12,c12,rfl⟩:=Kd.R_slice HC.out
      obtain ⟨gc,hgc⟩:=Kd.R_typed HD.out g rfl
      have HHW:=am (R_moved rfl H8.out (fun k_ hk_ hl_=>HKK.out k_ hl_ (fun e_=>Kd.R_ne H8.out hgc d_c (by rw [hk_,e_]))) (fun k_ hk_ hl_=>HKK.out k_ hl_ (fun e_=>by
       obtain ⟨q,hq,cells,hc⟩:=hk_
       rw [show (Kd.string).E = [] from rfl,List.mem_singleton] at hq
       subst hq
       rw [e_,hgc] at hc
       injection hc with hc
       injection hc with _ ht _
       exact absurd ht d_c)))
      have HNW:=am (Kd.N_step H9.out (fun k_ ho_ hl_=>HKK.out k_ hl_ ho_.2))
      have HSZW:=am HSZ.out
      clear hj hKS hpos hln hcs hgc
      go_wp2_with (first
       | (go_at_call 73;refine (spec_reSorted.calls KS A12 c12 (classR TX NB n i n) _ _ (Kd.R_reads' HC.out).2.2 (Kd.R_reads' HC.out).2.1 HKS.out).mono ?_;rintro e w8 ⟨v15,rfl,ho15,hb15⟩;have HO15:=am ho15;have HB15:=am hb15;clear ho15 hb15))
      have HNB:=am (Kd.N_below HNW.out HB15.out)
      have HHB:=am (Kd.R_below HHW.out HB15.out)
      have HDB:=am (Kd.R_below HDD.out HB15.out)
      have HE8:=am (below_step HQ2.out HB15.out)
      obtain ⟨A15,c15,rfl⟩:=Kd.R_slice HO15.out
      obtain ⟨A8,c8,rfl⟩:=Kd.R_slice HHB.out
      obtain ⟨A9,c9,rfl⟩:=Kd.N_slice HNB.out
      have HOL:=am (show (foldC TX NB n L).length ≤ 300 by rw [foldC_len _ L rfl];have:=HLL.out;have:=HL.out;have:=HM.out;omega)
      have HFS:=am (show foldC TX NB n (L ++ [i]) = insC cs (foldC TX NB n L) by rw [foldC_snoc,HCS.out])
      have HMF:=am (show markP NB n i n D = markL (mutB NB n) n i D from markP_full)
      obtain ⟨oc,hoc⟩:∃ x,foldC TX NB n L = x:=⟨_,rfl⟩
      rw [hoc] at HNB HHB HOL HFS ⊢
      clear hoc HNW HHW HC HKK HSZ HDD
      obtain ⟨hl,hhl⟩:∃ x,(oc.map fun c=>c.getD 0 ByteArray.empty) = x:=⟨_,rfl⟩
      rw [hhl] at HHB ⊢
      have HHL:=am hhl
      have HLEN:=am (show hl.length = oc.length by rw [← hhl,List.length_map])
      obtain ⟨b15,o15,hA15,hb15,hc15⟩:=C_place (Kd.R_reads' HO15.out).2.2 HCP.out
      subst hA15
      have hd15:w8.cell? ⟨b15,o15,none⟩ = some (.string (cs.getD 0 ByteArray.empty)):=hc15 0 _ (by rw [List.getD_eq_getElem?_getD,List.getElem?_eq_getElem HCP.out];rfl)
      obtain ⟨hd,hhd⟩:∃ x,cs.getD 0 ByteArray.empty = x:=⟨_,rfl⟩
      rw [hhd] at hd15
      have HHD:=am hhd
      have HD15:=am hd15
      have hcsp:(0:Int) < (cs.length:Int):=by have:=HCP.out;omega
      clear hhl hb15 hc15 hd15 hhd
      have HGL:=am (Kd.R_lt HDB.out g rfl)
      have HC8:=am (Kd.R_mono (ok':=fun k_=>wE.heap.size ≤ k_ ∧ k_ ≠ g) (Kd.R_bound HO15.out) (fun k_ hk_=>⟨Nat.le_trans HQ2.out.size hk_.2.1,fun e_=>by have h1:=hk_.2.1;have h2:=Kd.R_lt HD.out g rfl;have h3:=HSZW.out;omega⟩))
      have HF8:=am (Kd.N_F (Kd.N_bound HNB.out))
      have HRM:=am (Kd.N_reads' HNB.out).2.1
      go_loopw [15] (fun v15 wr=>∃ t:Nat,t ≤ oc.length ∧ v15 = .int .i64 t ∧ Aside0 (∀ q,q < t → ∀ h:q < oc.length,hdB oc[q] < hdB cs) ∧ Aside0 (Below w8.heap.size w8 wr)) (fun v15 _=>oc.length - (intOf v15).toNat)
      case atStart=>exact ⟨0,Nat.zero_le _,rfl,⟨fun q hq=>absurd hq (Nat.not_lt_zero _)⟩,⟨Below.refl _ _⟩⟩
      case round =>
       obtain ⟨t,ht,rfl,HLS,HQ4⟩:=hrel
       have x15:=(HQ4.out.cell (World.block_lt_of_cell? w8 _ HD15.out)).trans HD15.out
       by_cases hlt3:t < oc.length
       rotate_left
       ·skip
        have htF:¬ ((t:Int) < (hl.length:Int)):=by rw [HLEN.out];omega
        have hcsn:=HCP.out
        have HINS:=am (show insC cs oc = oc.take t ++ [cs] ++ oc.drop t from insC_at HLS.out ht (fun h=>absurd h hlt3))
        have HTT:=am ht
        clear hlt3 ht
        go_wp2
        have htF2:((t:Int) < (hl.length:Int)) = False:=eq_false o_m
        refine start_ (n:=14) (S:=fun w'=>w'.cell? ⟨b15,o15,none⟩ = some (.string hd)) (ds:=[]) (bm 14 0) k_r rfl rfl x15 (fun hHeld=>?_)
        refine take_ (i:=0) (N:=some 83) (v:=?_) (a':=?_) (bm 14 1) rfl rfl k_r (fun _ _ _ h=>h) (Or.inl ⟨by rfl,?_⟩) hHeld ?_ ?_
        rotate_left
        ·rintro w' s_0
         go_simp
         try with_reducible rfl
        rotate_left
        ·simp only [Act.put,ac_]
         rfl
        refine take_ (i:=1) (N:=some 84) (v:=?_) (a':=?_) (bm 14 3) rfl rfl k_r (fun _ _ _ h=>h) (Or.inl ⟨by rfl,?_⟩) hHeld ?_ ?_
        rotate_left
        ·rintro w' s_0
         go_simp
         try with_reducible rfl
        rotate_left
        ·simp only [Act.put,ac_]
         rfl
        refine take_ (i:=2) (N:=some 85) (v:=?_) (a':=?_) (bm 14 7) rfl rfl k_r (fun _ _ _ h=>h) (Or.inl ⟨by rfl,?_⟩) hHeld ?_ ?_
        rotate_left
        ·rintro w' s_0
         go_simp
         try with_reducible rfl
        rotate_left
        ·simp only [Act.put,ac_]
         rfl
        refine take_ (i:=3) (N:=some 86) (v:=?_) (a':=?_) (bm 14 15) rfl rfl k_r (fun _ _ _ h=>h) (Or.inl ⟨by rfl,?_⟩) hHeld ?_ ?_
        rotate_left
        ·rintro w' s_0
         go_simp
         try with_reducible rfl
        rotate_left
        ·simp only [Act.put,ac_]
         rfl
        refine take_ (i:=4) (N:=some 87) (v:=?_) (a':=?_) (bm 14 31) rfl rfl k_r (fun _ _ _ h=>h) (Or.inl ⟨by rfl,?_⟩) hHeld ?_ ?_
        rotate_left
        ·rintro w' s_0
         go_simp
         try with_reducible rfl
        rotate_left
        ·simp only [Act.put,ac_]
         rfl
        refine take_ (i:=5) (N:=some 88) (v:=undef) (a':=?_) (bm 14 63) rfl rfl k_r (fun _ _ _ h=>h) (Or.inr ⟨by rfl,rfl⟩) hHeld ?_ ?_
        rotate_left
        ·simp only [Act.put,ac_]
         rfl
        refine take_ (i:=6) (N:=some 89) (v:=undef) (a':=?_) (bm 14 127) rfl rfl k_r (fun _ _ _ h=>h) (Or.inr ⟨by rfl,rfl⟩) hHeld ?_ ?_
        rotate_left
        ·simp only [Act.put,ac_]
         rfl
        refine take_ (i:=7) (N:=some 90) (v:=undef) (a':=?_) (bm 14 255) rfl rfl k_r (fun _ _ _ h=>h) (Or.inr ⟨by rfl,rfl⟩) hHeld ?_ ?_
        rotate_left
        ·simp only [Act.put,ac_]
         rfl
        refine take_ (i:=8) (N:=some 91) (v:=undef) (a':=?_) (bm 14 511) rfl rfl k_r (fun _ _ _ h=>h) (Or.inr ⟨by rfl,rfl⟩) hHeld ?_ ?_
        rotate_left
        ·simp only [Act.put,ac_]
         rfl
        refine take_ (i:=9) (N:=some 92) (v:=undef) (a':=?_) (bm 14 1023) rfl rfl k_r (fun _ _ _ h=>h) (Or.inr ⟨by rfl,rfl⟩) hHeld ?_ ?_
        rotate_left
        ·simp only [Act.put,ac_]
         rfl
        refine take_ (i:=10) (N:=some 93) (v:=undef) (a':=?_) (bm 14 2047) rfl rfl k_r (fun _ _ _ h=>h) (Or.inr ⟨by rfl,rfl⟩) hHeld ?_ ?_
        rotate_left
        ·simp only [Act.put,ac_]
         rfl
        refine take_ (i:=11) (N:=some 94) (v:=undef) (a':=?_) (bm 14 4095) rfl rfl k_r (fun _ _ _ h=>h) (Or.inr ⟨by rfl,rfl⟩) hHeld ?_ ?_
        rotate_left
        ·simp only [Act.put,ac_]
         rfl
        refine take_ (i:=12) (N:=some 95) (v:=undef) (a':=?_) (bm 14 8191) rfl rfl k_r (fun _ _ _ h=>h) (Or.inr ⟨by rfl,rfl⟩) hHeld ?_ ?_
        rotate_left
        ·simp only [Act.put,ac_]
         rfl
        refine take_ (i:=13) (N:=some 96) (v:=?_) (a':=?_) (bm 14 16383) rfl rfl k_r (fun _ _ _ h=>h) (Or.inl ⟨by rfl,?_⟩) hHeld ?_ ?_
        rotate_left
        ·rintro w' s_0
         go_simp
         try with_reducible rfl
        rotate_left
        ·simp only [Act.put,ac_]
         rfl
        refine done_ k_r ?_
        have HQ5:=am (below_drew1 HQ4.out)
        clear hHeld x15
        generalize wr.drew = wd at HQ5 ⊢
        have HQW:=am (Nat.le_trans HE8.out.size HQ5.out.size)
        have hfr:=am (fun (W:World) (h:w8.heap.size ≤ W.heap.size) (k_:Nat) (hk_:W.heap.size ≤ k_)=>⟨Nat.le_trans HE8.out.size (Nat.le_trans h hk_),fun e_=>by have:=HGL.out;omega⟩:∀ W:World,w8.heap.size ≤ W.heap.size → ∀ k_,W.heap.size ≤ k_ → wE.heap.size ≤ k_ ∧ k_ ≠ g)
        have hto:(t:Int) ≤ (oc.length:Int):=by have:=HTT.out;omega
        have ht0:(0:Int) ≤ (t:Int):=by omega
        obtain ⟨i0,hi0,_,hsz0,_⟩:=info_parts infoSS
        have hcut:=cut_to (P:=Tryz.prog) 52 35 .i64 Tryz.underlying52 hi0 A9 oc.length c9 (t:Int) ht0 hto HRM.out
        rw [Int.toNat_natCast] at hcut
        have HF1:=am (Kd.F_take (m:=t) HF8.out HTT.out)
        have HLT1:=am (show (oc.take t).length = t by rw [List.length_take];have:=HTT.out;omega)
        obtain ⟨A10,hA10⟩:∃ A1,A1 = (if c9 = (t:Int).toNat then A9 else (A9:Option Addr).map (·.add ((t:Int).toNat * 1))):=⟨_,rfl⟩
        obtain ⟨c10,hc10⟩:∃ c1,c1 = c9 - (t:Int).toNat:=⟨_,rfl⟩
        obtain ⟨dl,hdl⟩:∃ x,x = oc.length - (t:Int).toNat:=⟨_,rfl⟩
        have hcutf:=cut_from (P:=Tryz.prog) 52 35 .i64 Tryz.underlying52 hi0 1 hsz0 A9 oc.length c9 (t:Int) ht0 hto
        have hf2:=Kd.F_cut (m:=(t:Int).toNat) (c:=c9) HF8.out (by have:=HTT.out;omega) HRM.out
        rw [List.length_drop,← hdl] at hf2
        rw [← hdl,← hA10,← hc10] at hcutf
        have HF2:=am (show Kd.F (Kd.slice 9 Kd.string) w8 _ A10 dl (oc.drop t) by rw [hA10];rw [Int.toNat_natCast] at hf2 ⊢;exact hf2)
        have HDL:=am (show dl ≤ 300 by have:=HOL.out;omega)
        clear hsz0 hi0 hf2 hA10 hc10 hdl
        go_wp2_with (first
         | ((with_reducible refine gate_dst (N:=99) rfl ?_);refine Kd.N_lit (Kd.slice 9 Kd.string) _ 35 ?hg (N':=99) ?hd (xs:=([]:List (List ByteArray))) (inner:=[]) (ok:=fun k_=>wE.heap.size ≤ k_ ∧ k_ ≠ g) (okp:=fun _=>False) ?hr ?hp (fun _ hk=>hk.elim) (hfr.out _ HQ5.out.size _ (Nat.le_refl _)) (Below.refl _ _) (Nat.le_refl _) (by simp) ?_;(case hd=>rfl);(case hg=>rfl);(case hr=>first | (go_simp;done) | (go_simp;rfl));(case hp=>exact (Reps.none _ _));intro v16 w16 ho16 hb16 hg16 hn16;have HO16:=am (Kd.N_lower ho16 HQ5.out.size);have HB16:=am (Kd.N_base ho16);have HQ16:=am (below_step HQ5.out hb16);clear ho16 hb16 hg16 hn16)
         | ((with_reducible refine gate_builtin (b:=.append) (xs:=#[.tmp 99,.tmp 102]) rfl ?_);at_builtin;refine Kd.N_append_rows (Kd.slice 9 Kd.string) (w0:=w8) w8.heap.size rfl (.tmp 99) (.tmp 102) 52 35 (.slice none 0 0) 24 rfl Tryz.underlying52 infoSS rfl d_c o_m v16 [] (oc.take t) A9 t c9 (fun k_=>wE.heap.size ≤ k_ ∧ k_ ≠ g) (fun k_=>(wE.heap.size ≤ k_ ∧ k_ ≠ g) ∧ some k_ ≠ v16.ownBlock) rfl rfl ?aO ?aR (fun _ hk=>hk) ?aF ?aB ?aS ?aL ?_;(case aO=>exact HO16.out);(case aR=>exact (by have h1:=Kd.F_mono (ok':=fun k_=>(wE.heap.size ≤ k_ ∧ k_ ≠ g) ∧ some k_ ≠ v16.ownBlock) (Kd.F_below HF1.out HQ16.out) (fun k_ hk_=>⟨hk_.1,fun e_=>by have h2:=HB16.out k_ e_.symm;have h3:=hk_.2;have h4:=HQ5.out.size;omega⟩);rwa [HLT1.out] at h1));(case aF=>exact hfr.out _ HQ16.out.size);(case aB=>exact HQ16.out);(case aS=>exact HQ16.out.size);(case aL=>have:=HTT.out;have:=HOL.out;simp;omega);intro v17 w17 ho17 hb17 hg17 hat17;rw [List.nil_append] at ho17;have HO17:=am ho17;have HQ17:=am hb17;clear ho17 hb17 hg17 hat17)
         | ((with_reducible refine gate_builtin (b:=.append) (xs:=#[.tmp 103,.tmp 105]) rfl ?_);at_builtin;refine Kd.N_append (Kd.slice 9 Kd.string) (w0:=w8) w8.heap.size rfl (.tmp 103) (.tmp 105) 52 35 (.slice none 0 0) 24 rfl Tryz.underlying52 infoSS rfl d_c o_m v17 (oc.take t) cs [.slice (some ⟨b15,o15,none⟩) cs.length c15] (fun k_=>wE.heap.size ≤ k_ ∧ k_ ≠ g) (fun k_=>(wE.heap.size ≤ k_ ∧ k_ ≠ g) ∧ some k_ ≠ v17.ownBlock) rfl rfl ?aP (fun _ hk=>hk) ?aF ?aO ?aB ?aS ?aL ?_;(case aP=>exact Kd.FK_slice_mk (Kd.R_reads' HC8.out).2.1 (Kd.R_F (Kd.R_apart' (Kd.R_below HC8.out HQ17.out) (Kd.N_typed HO17.out) d_c)));(case aF=>exact hfr.out _ HQ17.out.size);(case aO=>exact HO17.out);(case aB=>exact HQ17.out);(case aS=>exact HQ17.out.size);(case aL=>rw [HLT1.out];have:=HTT.out;have:=HOL.out;omega);intro v18 w18 ho18 hb18 hg18 hat18;have HO18:=am ho18;have HQ18:=am hb18;clear ho18 hb18 hg18 hat18)
         | ((with_reducible refine gate_builtin (b:=.append) (xs:=#[.tmp 107,.tmp 110]) rfl ?_);at_builtin;refine Kd.N_append_rows (Kd.slice 9 Kd.string) (w0:=w8) w8.heap.size rfl (.tmp 107) (.tmp 110) 52 35 (.slice none 0 0) 24 rfl Tryz.underlying52 infoSS rfl d_c o_m v18 (oc.take t ++ [cs]) (oc.drop t) A10 dl c10 (fun k_=>wE.heap.size ≤ k_ ∧ k_ ≠ g) (fun k_=>(wE.heap.size ≤ k_ ∧ k_ ≠ g) ∧ some k_ ≠ v18.ownBlock) rfl rfl ?aO ?aR (fun _ hk=>hk) ?aF ?aB ?aS ?aL ?_;(case aO=>exact HO18.out);(case aR=>exact Kd.F_mono (Kd.F_below HF2.out HQ18.out) (fun k_ hk_=>⟨hk_.1,fun e_=>by have h2:=Kd.N_base HO18.out k_ e_.symm;have h3:=hk_.2;omega⟩));(case aF=>exact hfr.out _ HQ18.out.size);(case aB=>exact HQ18.out);(case aS=>exact HQ18.out.size);(case aL=>have:=HTT.out;have:=HOL.out;have:=HDL.out;simp;omega);intro v19 w19 ho19 hb19 hg19 hat19;have HO19:=am ho19;have HQ19:=am hb19;clear ho19 hb19 hg19 hat19))
        obtain ⟨i1,hi1,_,hsz1,_⟩:=info_parts info9
        have HRM8:=am (Kd.R_reads' HHB.out).2.1
        have htl:(t:Int) ≤ (hl.length:Int):=by rw [HLEN.out];exact hto
        have hct:=cut_to (P:=Tryz.prog) 35 9 .i64 Tryz.underlying35 hi1 A8 hl.length c8 (t:Int) ht0 htl HRM8.out
        rw [Int.toNat_natCast] at hct
        obtain ⟨A11,hA11⟩:∃ A1,A1 = (if c8 = (t:Int).toNat then A8 else (A8:Option Addr).map (·.add ((t:Int).toNat * 1))):=⟨_,rfl⟩
        obtain ⟨c11,hc11⟩:∃ c1,c1 = c8 - (t:Int).toNat:=⟨_,rfl⟩
        obtain ⟨dh,hdh⟩:∃ x,x = hl.length - (t:Int).toNat:=⟨_,rfl⟩
        have hcf:=cut_from (P:=Tryz.prog) 35 9 .i64 Tryz.underlying35 hi1 1 hsz1 A8 hl.length c8 (t:Int) ht0 htl
        have hC1:=Kd.C_drop (m:=(t:Int).toNat) (c:=c8) (Kd.R_reads' HHB.out).2.2 (by have:=HTT.out;rw [HLEN.out];omega) HRM8.out
        rw [List.length_drop,← hdh] at hC1
        rw [← hdh,← hA11,← hc11] at hcf
        have HC1:=am (show Kd.string.C w8 A11 dh (hl.drop t) by rw [hA11];rw [Int.toNat_natCast] at hC1 ⊢;exact hC1)
        have HDH:=am (show dh ≤ 300 by have:=HOL.out;have:=HLEN.out;omega)
        have HLTh:=am (show (hl.take t).length = t by rw [List.length_take];have:=HTT.out;have:=HLEN.out;omega)
        have HAL2:=am (show ((hl.take t).length + 1) * 16 ≤ 140737488355328 by rw [HLTh.out];have:=HTT.out;have:=HOL.out;omega)
        have HOWN:=am (fun W (hB:Below w19.heap.size w19 W)=>by
         have h:=spec_l1OwnS.calls A8 c8 (hl.take t) (hl.take t) W (Kd.C_below (Kd.C_take (Kd.R_reads' HHB.out).2.2 (by rw [HLEN.out];exact HTT.out)) (below_step HQ19.out hB)) (by rw [HLTh.out];have:=HRM8.out;have:=HTT.out;have:=HLEN.out;omega) (l1Own_f (by rw [HLTh.out];have:=HTT.out;have:=HOL.out;omega))
         rw [HLTh.out] at h
         exact h:∀ W,Below w19.heap.size w19 W → Calls Tryz.prog 84 #[.slice A8 t c8] W fun e w'=>∃ v,e = .returned v ∧ Kd.R Kd.string 9 w' W.heap.size (fun _=>True) v (hl.take t) ∧ Below W.heap.size W w')
        clear hsz1 hi1 hC1 hA11 hc11 hdh hcut hcutf
        have x15:=(HQ19.out.cell (World.block_lt_of_cell? w8 _ HD15.out)).trans HD15.out
        have X15:=am x15
        have HQ20:=am (show Below w19.heap.size w19 w19.drew from below_drew1 (Below.refl _ _))
        refine start_ (n:=10) (S:=fun w'=>w'.cell? ⟨b15,o15,none⟩ = some (.string hd)) (ds:=[]) (bm 10 0) k_r rfl rfl (x15) (fun hHeld=>?_)
        refine py0 (i:=0) (N:=some 112) (bm 10 1) ?_
        refine py0 (i:=1) (N:=some 113) (bm 10 3) ?_
        refine py0 (i:=2) (N:=some 114) (bm 10 7) ?_
        refine py0 (i:=4) (N:=some 116) (bm 10 23) ?_
        refine py0 (i:=5) (N:=some 117) (bm 10 55) ?_
        refine take_ (i:=6) (N:=some 118) (v:=?_) (a':=?_) (bm 10 119) rfl rfl k_r (fun _ _ _ h=>h) (Or.inl ⟨by rfl,?_⟩) hHeld ?_ ?_
        rotate_left
        ·intro w' s0
         go_simp
         with_reducible rfl
        rotate_left
        ·simp only [Act.put,ac_]
         rfl
        refine join_ (σ:=Value × Value) 2 #[true,true,true,true,true,true,true,true,false,false] (fun s_=>[(115,s_.1),(119,s_.2)]) (fun s_ w'=>(w'.cell? ⟨b15,o15,none⟩ = some (.string hd)) ∧ (Kd.R Kd.string 9 w' w19.heap.size (fun _=>True) s_.1 (hl.take t)) ∧ (Kd.R Kd.string 9 w' w19.heap.size (fun _=>True) s_.2 ([hd])) ∧ (Below w19.heap.size w19 w')) ?_ ?_
        rotate_left
        ·intro hCont
         refine two_ (i:=3) (j:=7) (Ni:=some 115) (Nj:=some 119) #[true,true,true,true,true,true,true,false,false,false] #[true,true,true,false,true,true,true,true,false,false] rfl rfl rfl rfl k_r d_c d_c (fun K hK=>?_) (fun K hK=>?_)
         ·skip
          refine goes_ Tryz.func84 k_r rfl #[.slice A8 t c8] (by rfl) rfl rfl (by (try simp only [List.map_toArray,List.map_cons,List.map_nil]);first | done | rfl) ?_
          refine (HOWN.out _ HQ20.out).mono ?_
          rintro e w21 ⟨v115,rfl,ho,hb⟩
          refine ⟨_,rfl,?_⟩
          have HOC:=am (Kd.R_lower ho HQ20.out.size)
          have HQC:=am (below_step HQ20.out hb)
          have hs_:=(hb.cell (World.block_lt_of_cell? _ _ hHeld)).trans hHeld
          clear ho hb
          refine hK.out _ _ (hs_) (fun hHeld=>?_)
          clear hK K
          refine nm (some 115) ?_
          refine one_ (i:=7) (N:=some 119) (bm 10 255) rfl rfl k_r d_c (fun K hK=>?_)
          refine Kd.R_lit_step Kd.string _ 9 ?hg (N:=119) ?hd (xs:=([hd]:List ByteArray)) (inner:=[.string hd]) (ok:=fun _=>True) (okp:=fun _=>True) ?hr ?hp (fun _ hk=>hk) trivial (Below.refl _ _) (Nat.le_refl _) (by simp) ?_
          case hd=>rfl
          case hg=>rfl
          case hr=>first | (go_simp;done) | (go_simp;rfl)
          case hp=>exact (Reps.one (show Kd.M Kd.string _ _ _ hd [.string hd] from rfl) (Reps.none _ _))
          intro v119 w22 ho hb hg_ hn_
          have HOL:=am (Kd.R_lower ho HQC.out.size)
          have HOM:=am (Kd.R_below HOC.out hb)
          have HQM:=am (below_step HQC.out hb)
          have hs_:=(hb.cell (World.block_lt_of_cell? _ _ hHeld)).trans hHeld
          clear ho hb hg_ hn_
          refine hK.out _ _ (hs_) (fun hHeld=>?_)
          clear hK K
          refine nm (some 119) ?_
          exact norm_ (by simp only [Go.YW.PrintLast.putAll,Act.put,List.setIfInBounds_toArray,List.set_cons_zero,List.set_cons_succ]) (hCont (v115,v119) _ ⟨hHeld,HOM.out,HOL.out,HQM.out⟩)
         ·skip
          refine Kd.R_lit_step Kd.string _ 9 ?hg (N:=119) ?hd (xs:=([hd]:List ByteArray)) (inner:=[.string hd]) (ok:=fun _=>True) (okp:=fun _=>True) ?hr ?hp (fun _ hk=>hk) trivial (Below.refl _ _) (Nat.le_refl _) (by simp) ?_
          case hd=>rfl
          case hg=>rfl
          case hr=>first | (go_simp;done) | (go_simp;rfl)
          case hp=>exact (Reps.one (show Kd.M Kd.string _ _ _ hd [.string hd] from rfl) (Reps.none _ _))
          intro v119 w21 ho hb hg_ hn_
          have HOL:=am (Kd.R_lower ho HQ20.out.size)
          have HQL:=am (below_step HQ20.out hb)
          have hs_:=(hb.cell (World.block_lt_of_cell? _ _ hHeld)).trans hHeld
          clear ho hb hg_ hn_
          refine hK.out _ _ (hs_) (fun hHeld=>?_)
          clear hK K
          refine nm (some 119) ?_
          refine one_ (i:=3) (N:=some 115) (bm 10 255) rfl rfl k_r d_c (fun K hK=>?_)
          refine goes_ Tryz.func84 k_r rfl #[.slice A8 t c8] (by rfl) rfl rfl (by (try simp only [List.map_toArray,List.map_cons,List.map_nil]);first | done | rfl) ?_
          refine (HOWN.out _ HQL.out).mono ?_
          rintro e w22 ⟨v115,rfl,ho,hb⟩
          refine ⟨_,rfl,?_⟩
          have HOC:=am (Kd.R_lower ho HQL.out.size)
          have HOM:=am (Kd.R_below HOL.out hb)
          have HQM:=am (below_step HQL.out hb)
          have hs_:=(hb.cell (World.block_lt_of_cell? _ _ hHeld)).trans hHeld
          clear ho hb
          refine hK.out _ _ (hs_) (fun hHeld=>?_)
          clear hK K
          refine nm (some 115) ?_
          exact norm_ (by simp only [Go.YW.PrintLast.putAll,Act.put,List.setIfInBounds_toArray,List.set_cons_zero,List.set_cons_succ]) (hCont (v115,v119) _ ⟨hHeld,HOC.out,HOM.out,HQM.out⟩)
        rintro ⟨v115,v119⟩ w23 ⟨hHeld,hn1,hn2,hn3⟩
        have HO115:=am hn1
        have HO119:=am hn2
        have HQ23:=am hn3
        clear hn1 hn2 hn3
        obtain ⟨A_,c_,rfl⟩:=Kd.R_slice HO119.out
        refine norm_ (a':=?_) ?_ ?_
        rotate_left
        ·simp only [Go.YW.PrintLast.putAll,Act.put,List.setIfInBounds_toArray,List.set_cons_zero,List.set_cons_succ]
         rfl
        refine one_ (i:=8) (N:=some 120) (bm 10 511) rfl rfl k_r d_c (fun K hK=>?_)
        refine Kd.R_append_rows_step Kd.string (w0:=w19) w19.heap.size (by rfl) (.tmp 115) (.tmp 119) 35 9 (.string ByteArray.empty) 16 rfl Tryz.underlying35 info9 rfl d_c o_m v115 (hl.take t) [hd] A_ 1 c_ (fun _=>True) (fun _=>False) rfl rfl HO115.out (Kd.R_reads' HO119.out).2.2 (fun _ _ h_=>h_) (fun _ h_=>h_.elim) (fun _ _=>trivial) HQ23.out HQ23.out.size HAL2.out ?_
        intro v120 w24 ho hb hg_ hat_
        have HO120:=am ho
        have HQ24:=am hb
        have hs_:w24.cell? ⟨b15,o15,none⟩ = some (.string hd):=(World.cell?_of_block (hg_.block b15 (World.block_lt_of_cell? _ _ hHeld) (fun e_=>by have h1:=Kd.R_base HO115.out _ e_.symm;have h2:=World.block_lt_of_cell? w19 _ X15.out;exact absurd h2 (Nat.not_lt.2 h1)))).trans hHeld
        clear ho hb hg_ hat_
        refine hK.out _ _ (hs_) (fun hHeld=>?_)
        clear hK K
        refine nm (some 120) ?_
        refine py0 (i:=9) (N:=some 17) (bm 10 1023) ?_
        refine done_ k_r ?_
        clear hHeld
        have HCD:=am (Kd.C_below HC1.out (below_step HQ19.out HQ24.out))
        go_wp2_with (first
         | ((with_reducible refine gate_builtin (b:=.append) (xs:=#[.tmp 121,.tmp 124]) rfl ?_);at_builtin;refine Kd.R_append_rows Kd.string (w0:=w19) w19.heap.size rfl (.tmp 121) (.tmp 124) 35 9 (.string ByteArray.empty) 16 rfl Tryz.underlying35 info9 rfl d_c o_m v120 (hl.take t ++ [hd]) (hl.drop t) A11 dh c11 (fun _=>True) (fun _=>False) rfl rfl ?aO ?aR (fun _ _ h_=>h_) (fun _ h_=>h_.elim) (fun _ _=>trivial) ?aB ?aS ?aL ?_;(case aO=>exact HO120.out);(case aR=>exact HCD.out);(case aB=>exact HQ24.out);(case aS=>exact HQ24.out.size);(case aL=>rw [List.length_append,HLTh.out];have:=HTT.out;have:=HOL.out;have:=HDH.out;simp;omega);intro v26 w26 ho26 hb26 hg26 hat26;have HO26:=am ho26;have HQ26:=am hb26;clear ho26 hb26 hg26 hat26))
        have HNEW:=am (show foldC TX NB n (L ++ [i]) = oc.take t ++ [cs] ++ oc.drop t by rw [HFS.out,HINS.out])
        have HHN:=am (show ((foldC TX NB n (L ++ [i])).map fun c=>c.getD 0 ByteArray.empty) = hl.take t ++ [hd] ++ hl.drop t by rw [HNEW.out,List.map_append,List.map_append,List.map_take,List.map_drop,HHL.out,List.map_cons,List.map_nil,HHD.out])
        have HDL2:=am (Kd.R_reads' HDB.out).1
        have HQ27:=am (below_step HQ19.out HQ26.out)
        go_roundw
        case rel=>exact ⟨i + 1,markP NB n i n D,L ++ [i],HL.out,by first | rfl | simp,HDL2.out.symm,by rw [List.length_append];have:=HLL.out;simp;omega,⟨by rw [HMF.out];exact HSEL.out⟩,⟨by rw [HHN.out];exact Kd.R_lower HO26.out (Nat.le_trans HE8.out.size HQ19.out.size)⟩,⟨by rw [HNEW.out];exact Kd.N_lower (Kd.N_below HO19.out HQ26.out) HE8.out.size⟩,⟨Kd.R_below HDB.out HQ27.out⟩,⟨below_step HE8.out HQ27.out⟩⟩
        case measure=>have:=HL.out;simp [intOf];omega
       obtain ⟨b8,o8,rfl,hb8,hc8⟩:=C_place (Kd.R_reads' HHB.out).2.2 (by rw [HLEN.out];omega)
       have x8:wr.cell? ⟨b8,o8 + t,none⟩ = some (.string ((oc[t]'hlt3).getD 0 ByteArray.empty)):=(HQ4.out.cell (p:=⟨b8,o8 + t,none⟩) hb8).trans (hc8 t _ (by rw [← HHL.out,List.getElem?_map,List.getElem?_eq_getElem hlt3];rfl))
       obtain ⟨hq,hhq⟩:∃ x,(oc[t]'hlt3).getD 0 ByteArray.empty = x:=⟨_,rfl⟩
       have HLT:=am (fun h=>by rw [← hhq];rfl:∀ h:t < oc.length,hdB (oc[t]'h) = kb hq)
       rw [hhq] at x8
       have HT:=am hlt3
       have htI:(t:Int) < (hl.length:Int):=by rw [HLEN.out];omega
       have hw3:IntKind.i64.wrap ((t:Int) + 1) = ((t + 1:Nat):Int):=by rw [IntKind.wrap_i64];have:=HOL.out;omega
       clear hc8 hhq hlt3 ht hb8
       by_cases hls:kb hq < kb hd
       ·have hlb:Op.bytesLess hq.toList hd.toList = true:=(less_iff _ _).2 hls
        have HLS2:=am (fun q hq_ h=>by
         by_cases e:q = t
         ·subst e;rw [HLT.out h,show hdB cs = kb hd by rw [← HHD.out];rfl];exact hls
         ·exact HLS.out q o_m h:∀ q,q < t + 1 → ∀ h:q < oc.length,hdB oc[q] < hdB cs)
        clear hls
        have hcsn:=HCP.out
        go_wp2
        refine start_ (n:=14) (S:=fun w'=>w'.cell? ⟨b8,o8 + t,none⟩ = some (.string hq) ∧ w'.cell? ⟨b15,o15,none⟩ = some (.string hd)) (ds:=[]) (bm 14 0) k_r rfl rfl ⟨x8,x15⟩ (fun hHeld=>?_)
        refine take_ (i:=0) (N:=some 83) (v:=?_) (a':=?_) (bm 14 1) rfl rfl k_r (fun _ _ _ h=>h) (Or.inl ⟨by rfl,?_⟩) hHeld ?_ ?_
        rotate_left
        ·rintro w' ⟨s_0,s_1⟩
         go_simp
         try with_reducible rfl
        rotate_left
        ·simp only [Act.put,ac_]
         rfl
        refine take_ (i:=1) (N:=some 84) (v:=?_) (a':=?_) (bm 14 3) rfl rfl k_r (fun _ _ _ h=>h) (Or.inl ⟨by rfl,?_⟩) hHeld ?_ ?_
        rotate_left
        ·rintro w' ⟨s_0,s_1⟩
         go_simp
         try with_reducible rfl
        rotate_left
        ·simp only [Act.put,ac_]
         rfl
        refine take_ (i:=2) (N:=some 85) (v:=?_) (a':=?_) (bm 14 7) rfl rfl k_r (fun _ _ _ h=>h) (Or.inl ⟨by rfl,?_⟩) hHeld ?_ ?_
        rotate_left
        ·rintro w' ⟨s_0,s_1⟩
         go_simp
         try with_reducible rfl
        rotate_left
        ·simp only [Act.put,ac_]
         rfl
        refine take_ (i:=3) (N:=some 86) (v:=?_) (a':=?_) (bm 14 15) rfl rfl k_r (fun _ _ _ h=>h) (Or.inl ⟨by rfl,?_⟩) hHeld ?_ ?_
        rotate_left
        ·rintro w' ⟨s_0,s_1⟩
         go_simp
         try with_reducible rfl
        rotate_left
        ·simp only [Act.put,ac_]
         rfl
        refine take_ (i:=4) (N:=some 87) (v:=?_) (a':=?_) (bm 14 31) rfl rfl k_r (fun _ _ _ h=>h) (Or.inl ⟨by rfl,?_⟩) hHeld ?_ ?_
        rotate_left
        ·rintro w' ⟨s_0,s_1⟩
         go_simp
         try with_reducible rfl
        rotate_left
        ·simp only [Act.put,ac_]
         rfl
        refine take_ (i:=5) (N:=some 88) (v:=?_) (a':=?_) (bm 14 63) rfl rfl k_r (fun _ _ _ h=>h) (Or.inl ⟨by rfl,?_⟩) hHeld ?_ ?_
        rotate_left
        ·rintro w' ⟨s_0,s_1⟩
         go_simp
         try with_reducible rfl
        rotate_left
        ·simp only [Act.put,ac_]
         rfl
        refine take_ (i:=6) (N:=some 89) (v:=?_) (a':=?_) (bm 14 127) rfl rfl k_r (fun _ _ _ h=>h) (Or.inl ⟨by rfl,?_⟩) hHeld ?_ ?_
        rotate_left
        ·rintro w' ⟨s_0,s_1⟩
         go_simp
         try with_reducible rfl
        rotate_left
        ·simp only [Act.put,ac_]
         rfl
        refine take_ (i:=7) (N:=some 90) (v:=?_) (a':=?_) (bm 14 255) rfl rfl k_r (fun _ _ _ h=>h) (Or.inl ⟨by rfl,?_⟩) hHeld ?_ ?_
        rotate_left
        ·rintro w' ⟨s_0,s_1⟩
         go_simp
         try with_reducible rfl
        rotate_left
        ·simp only [Act.put,ac_]
         rfl
        refine take_ (i:=8) (N:=some 91) (v:=?_) (a':=?_) (bm 14 511) rfl rfl k_r (fun _ _ _ h=>h) (Or.inl ⟨by rfl,?_⟩) hHeld ?_ ?_
        rotate_left
        ·rintro w' ⟨s_0,s_1⟩
         go_simp
         try with_reducible rfl
        rotate_left
        ·simp only [Act.put,ac_]
         rfl
        refine take_ (i:=9) (N:=some 92) (v:=?_) (a':=?_) (bm 14 1023) rfl rfl k_r (fun _ _ _ h=>h) (Or.inl ⟨by rfl,?_⟩) hHeld ?_ ?_
        rotate_left
        ·rintro w' ⟨s_0,s_1⟩
         go_simp
         try with_reducible rfl
        rotate_left
        ·simp only [Act.put,ac_]
         rfl
        refine take_ (i:=10) (N:=some 93) (v:=?_) (a':=?_) (bm 14 2047) rfl rfl k_r (fun _ _ _ h=>h) (Or.inl ⟨by rfl,?_⟩) hHeld ?_ ?_
        rotate_left
        ·rintro w' ⟨s_0,s_1⟩
         go_simp
         try with_reducible rfl
        rotate_left
        ·simp only [Act.put,ac_]
         rfl
        refine take_ (i:=11) (N:=some 94) (v:=?_) (a':=?_) (bm 14 4095) rfl rfl k_r (fun _ _ _ h=>h) (Or.inl ⟨by rfl,?_⟩) hHeld ?_ ?_
        rotate_left
        ·rintro w' ⟨s_0,s_1⟩
         go_simp
         try with_reducible rfl
        rotate_left
        ·simp only [Act.put,ac_]
         rfl
        refine take_ (i:=12) (N:=some 95) (v:=?_) (a':=?_) (bm 14 8191) rfl rfl k_r (fun _ _ _ h=>h) (Or.inl ⟨by rfl,?_⟩) hHeld ?_ ?_
        rotate_left
        ·rintro w' ⟨s_0,s_1⟩
         go_simp
         try with_reducible rfl
        rotate_left
        ·simp only [Act.put,ac_]
         rfl
        refine take_ (i:=13) (N:=some 96) (v:=?_) (a':=?_) (bm 14 16383) rfl rfl k_r (fun _ _ _ h=>h) (Or.inl ⟨by rfl,?_⟩) hHeld ?_ ?_
        rotate_left
        ·rintro w' ⟨s_0,s_1⟩
         go_simp
         try with_reducible rfl
        rotate_left
        ·simp only [Act.put,ac_]
         rfl
        refine done_ k_r ?_
        have HQ5:=am (below_drew1 HQ4.out)
        clear hHeld x8 x15
        generalize wr.drew = wd at HQ5 ⊢
        go_wp2
        go_roundw
        case rel=>exact ⟨t + 1,HT.out,by first | rfl | simp,HLS2,HQ5⟩
        case measure=>have:=HT.out;simp [intOf];omega
       have hlb:Op.bytesLess hq.toList hd.toList = false:=by rw [← Bool.not_eq_true,less_iff];exact hls
       have HINS:=am (show insC cs oc = oc.take t ++ [cs] ++ oc.drop t from insC_at HLS.out (Nat.le_of_lt HT.out) (fun h=>by rw [HLT.out h,show hdB cs = kb hd by rw [← HHD.out];rfl];exact hls))
       clear hls
       have hcsn:=HCP.out
       go_wp2
       refine start_ (n:=14) (S:=fun w'=>w'.cell? ⟨b8,o8 + t,none⟩ = some (.string hq) ∧ w'.cell? ⟨b15,o15,none⟩ = some (.string hd)) (ds:=[]) (bm 14 0) k_r rfl rfl ⟨x8,x15⟩ (fun hHeld=>?_)
       refine take_ (i:=0) (N:=some 83) (v:=?_) (a':=?_) (bm 14 1) rfl rfl k_r (fun _ _ _ h=>h) (Or.inl ⟨by rfl,?_⟩) hHeld ?_ ?_
       rotate_left
       ·rintro w' ⟨s_0,s_1⟩
        go_simp
        try with_reducible rfl
       rotate_left
       ·simp only [Act.put,ac_]
        rfl
       refine take_ (i:=1) (N:=some 84) (v:=?_) (a':=?_) (bm 14 3) rfl rfl k_r (fun _ _ _ h=>h) (Or.inl ⟨by rfl,?_⟩) hHeld ?_ ?_
       rotate_left
       ·rintro w' ⟨s_0,s_1⟩
        go_simp
        try with_reducible rfl
       rotate_left
       ·simp only [Act.put,ac_]
        rfl
       refine take_ (i:=2) (N:=some 85) (v:=?_) (a':=?_) (bm 14 7) rfl rfl k_r (fun _ _ _ h=>h) (Or.inl ⟨by rfl,?_⟩) hHeld ?_ ?_
       rotate_left
       ·rintro w' ⟨s_0,s_1⟩
        go_simp
        try with_reducible rfl
       rotate_left
       ·simp only [Act.put,ac_]
        rfl
       refine take_ (i:=3) (N:=some 86) (v:=?_) (a':=?_) (bm 14 15) rfl rfl k_r (fun _ _ _ h=>h) (Or.inl ⟨by rfl,?_⟩) hHeld ?_ ?_
       rotate_left
       ·rintro w' ⟨s_0,s_1⟩
        go_simp
        try with_reducible rfl
       rotate_left
       ·simp only [Act.put,ac_]
        rfl
       refine take_ (i:=4) (N:=some 87) (v:=?_) (a':=?_) (bm 14 31) rfl rfl k_r (fun _ _ _ h=>h) (Or.inl ⟨by rfl,?_⟩) hHeld ?_ ?_
       rotate_left
       ·rintro w' ⟨s_0,s_1⟩
        go_simp
        try with_reducible rfl
       rotate_left
       ·simp only [Act.put,ac_]
        rfl
       refine take_ (i:=5) (N:=some 88) (v:=?_) (a':=?_) (bm 14 63) rfl rfl k_r (fun _ _ _ h=>h) (Or.inl ⟨by rfl,?_⟩) hHeld ?_ ?_
       rotate_left
       ·rintro w' ⟨s_0,s_1⟩
        go_simp
        try with_reducible rfl
       rotate_left
       ·simp only [Act.put,ac_]
        rfl
       refine take_ (i:=6) (N:=some 89) (v:=?_) (a':=?_) (bm 14 127) rfl rfl k_r (fun _ _ _ h=>h) (Or.inl ⟨by rfl,?_⟩) hHeld ?_ ?_
       rotate_left
       ·rintro w' ⟨s_0,s_1⟩
        go_simp
        try with_reducible rfl
       rotate_left
       ·simp only [Act.put,ac_]
        rfl
       refine take_ (i:=7) (N:=some 90) (v:=?_) (a':=?_) (bm 14 255) rfl rfl k_r (fun _ _ _ h=>h) (Or.inl ⟨by rfl,?_⟩) hHeld ?_ ?_
       rotate_left
       ·rintro w' ⟨s_0,s_1⟩
        go_simp
        try with_reducible rfl
       rotate_left
       ·simp only [Act.put,ac_]
        rfl
       refine take_ (i:=8) (N:=some 91) (v:=?_) (a':=?_) (bm 14 511) rfl rfl k_r (fun _ _ _ h=>h) (Or.inl ⟨by rfl,?_⟩) hHeld ?_ ?_
       rotate_left
       ·rintro w' ⟨s_0,s_1⟩
        go_simp
        try with_reducible rfl
       rotate_left
       ·simp only [Act.put,ac_]
        rfl
       refine take_ (i:=9) (N:=some 92) (v:=?_) (a':=?_) (bm 14 1023) rfl rfl k_r (fun _ _ _ h=>h) (Or.inl ⟨by rfl,?_⟩) hHeld ?_ ?_
       rotate_left
       ·rintro w' ⟨s_0,s_1⟩
        go_simp
        try with_reducible rfl
       rotate_left
       ·simp only [Act.put,ac_]
        rfl
       refine take_ (i:=10) (N:=some 93) (v:=?_) (a':=?_) (bm 14 2047) rfl rfl k_r (fun _ _ _ h=>h) (Or.inl ⟨by rfl,?_⟩) hHeld ?_ ?_
       rotate_left
       ·rintro w' ⟨s_0,s_1⟩
        go_simp
        try with_reducible rfl
       rotate_left
       ·simp only [Act.put,ac_]
        rfl
       refine take_ (i:=11) (N:=some 94) (v:=?_) (a':=?_) (bm 14 4095) rfl rfl k_r (fun _ _ _ h=>h) (Or.inl ⟨by rfl,?_⟩) hHeld ?_ ?_
       rotate_left
       ·rintro w' ⟨s_0,s_1⟩
        go_simp
        try with_reducible rfl
       rotate_left
       ·simp only [Act.put,ac_]
        rfl
       refine take_ (i:=12) (N:=some 95) (v:=?_) (a':=?_) (bm 14 8191) rfl rfl k_r (fun _ _ _ h=>h) (Or.inl ⟨by rfl,?_⟩) hHeld ?_ ?_
       rotate_left
       ·rintro w' ⟨s_0,s_1⟩
        go_simp
        try with_reducible rfl
       rotate_left
       ·simp only [Act.put,ac_]
        rfl
       refine take_ (i:=13) (N:=some 96) (v:=?_) (a':=?_) (bm 14 16383) rfl rfl k_r (fun _ _ _ h=>h) (Or.inl ⟨by rfl,?_⟩) hHeld ?_ ?_
       rotate_left
       ·rintro w' ⟨s_0,s_1⟩
        go_simp
        try with_reducible rfl
       rotate_left
       ·simp only [Act.put,ac_]
        rfl
       refine done_ k_r ?_
       have HQ5:=am (below_drew1 HQ4.out)
       clear hHeld x8 x15
       generalize wr.drew = wd at HQ5 ⊢
       have HQW:=am (Nat.le_trans HE8.out.size HQ5.out.size)
       have hfr:=am (fun (W:World) (h:w8.heap.size ≤ W.heap.size) (k_:Nat) (hk_:W.heap.size ≤ k_)=>⟨Nat.le_trans HE8.out.size (Nat.le_trans h hk_),fun e_=>by have:=HGL.out;omega⟩:∀ W:World,w8.heap.size ≤ W.heap.size → ∀ k_,W.heap.size ≤ k_ → wE.heap.size ≤ k_ ∧ k_ ≠ g)
       have HTT:=am (Nat.le_of_lt HT.out)
       have hto:(t:Int) ≤ (oc.length:Int):=by have:=HTT.out;omega
       have ht0:(0:Int) ≤ (t:Int):=by omega
       obtain ⟨i0,hi0,_,hsz0,_⟩:=info_parts infoSS
       have hcut:=cut_to (P:=Tryz.prog) 52 35 .i64 Tryz.underlying52 hi0 A9 oc.length c9 (t:Int) ht0 hto HRM.out
       rw [Int.toNat_natCast] at hcut
       have HF1:=am (Kd.F_take (m:=t) HF8.out HTT.out)
       have HLT1:=am (show (oc.take t).length = t by rw [List.length_take];have:=HTT.out;omega)
       obtain ⟨A10,hA10⟩:∃ A1,A1 = (if c9 = (t:Int).toNat then A9 else (A9:Option Addr).map (·.add ((t:Int).toNat * 1))):=⟨_,rfl⟩
       obtain ⟨c10,hc10⟩:∃ c1,c1 = c9 - (t:Int).toNat:=⟨_,rfl⟩
       obtain ⟨dl,hdl⟩:∃ x,x = oc.length - (t:Int).toNat:=⟨_,rfl⟩
       have hcutf:=cut_from (P:=Tryz.prog) 52 35 .i64 Tryz.underlying52 hi0 1 hsz0 A9 oc.length c9 (t:Int) ht0 hto
       have hf2:=Kd.F_cut (m:=(t:Int).toNat) (c:=c9) HF8.out (by have:=HTT.out;omega) HRM.out
       rw [List.length_drop,← hdl] at hf2
       rw [← hdl,← hA10,← hc10] at hcutf
       have HF2:=am (show Kd.F (Kd.slice 9 Kd.string) w8 _ A10 dl (oc.drop t) by rw [hA10];rw [Int.toNat_natCast] at hf2 ⊢;exact hf2)
       have HDL:=am (show dl ≤ 300 by have:=HOL.out;omega)
       clear hsz0 hi0 hf2 hA10 hc10 hdl
       go_wp2_with (first
        | ((with_reducible refine gate_dst (N:=99) rfl ?_);refine Kd.N_lit (Kd.slice 9 Kd.string) _ 35 ?hg (N':=99) ?hd (xs:=([]:List (List ByteArray))) (inner:=[]) (ok:=fun k_=>wE.heap.size ≤ k_ ∧ k_ ≠ g) (okp:=fun _=>False) ?hr ?hp (fun _ hk=>hk.elim) (hfr.out _ HQ5.out.size _ (Nat.le_refl _)) (Below.refl _ _) (Nat.le_refl _) (by simp) ?_;(case hd=>rfl);(case hg=>rfl);(case hr=>first | (go_simp;done) | (go_simp;rfl));(case hp=>exact (Reps.none _ _));intro v16 w16 ho16 hb16 hg16 hn16;have HO16:=am (Kd.N_lower ho16 HQ5.out.size);have HB16:=am (Kd.N_base ho16);have HQ16:=am (below_step HQ5.out hb16);clear ho16 hb16 hg16 hn16)
        | ((with_reducible refine gate_builtin (b:=.append) (xs:=#[.tmp 99,.tmp 102]) rfl ?_);at_builtin;refine Kd.N_append_rows (Kd.slice 9 Kd.string) (w0:=w8) w8.heap.size rfl (.tmp 99) (.tmp 102) 52 35 (.slice none 0 0) 24 rfl Tryz.underlying52 infoSS rfl d_c o_m v16 [] (oc.take t) A9 t c9 (fun k_=>wE.heap.size ≤ k_ ∧ k_ ≠ g) (fun k_=>(wE.heap.size ≤ k_ ∧ k_ ≠ g) ∧ some k_ ≠ v16.ownBlock) rfl rfl ?aO ?aR (fun _ hk=>hk) ?aF ?aB ?aS ?aL ?_;(case aO=>exact HO16.out);(case aR=>exact (by have h1:=Kd.F_mono (ok':=fun k_=>(wE.heap.size ≤ k_ ∧ k_ ≠ g) ∧ some k_ ≠ v16.ownBlock) (Kd.F_below HF1.out HQ16.out) (fun k_ hk_=>⟨hk_.1,fun e_=>by have h2:=HB16.out k_ e_.symm;have h3:=hk_.2;have h4:=HQ5.out.size;omega⟩);rwa [HLT1.out] at h1));(case aF=>exact hfr.out _ HQ16.out.size);(case aB=>exact HQ16.out);(case aS=>exact HQ16.out.size);(case aL=>have:=HTT.out;have:=HOL.out;simp;omega);intro v17 w17 ho17 hb17 hg17 hat17;rw [List.nil_append] at ho17;have HO17:=am ho17;have HQ17:=am hb17;clear ho17 hb17 hg17 hat17)
        | ((with_reducible refine gate_builtin (b:=.append) (xs:=#[.tmp 103,.tmp 105]) rfl ?_);at_builtin;refine Kd.N_append (Kd.slice 9 Kd.string) (w0:=w8) w8.heap.size rfl (.tmp 103) (.tmp 105) 52 35 (.slice none 0 0) 24 rfl Tryz.underlying52 infoSS rfl d_c o_m v17 (oc.take t) cs [.slice (some ⟨b15,o15,none⟩) cs.length c15] (fun k_=>wE.heap.size ≤ k_ ∧ k_ ≠ g) (fun k_=>(wE.heap.size ≤ k_ ∧ k_ ≠ g) ∧ some k_ ≠ v17.ownBlock) rfl rfl ?aP (fun _ hk=>hk) ?aF ?aO ?aB ?aS ?aL ?_;(case aP=>exact Kd.FK_slice_mk (Kd.R_reads' HC8.out).2.1 (Kd.R_F (Kd.R_apart' (Kd.R_below HC8.out HQ17.out) (Kd.N_typed HO17.out) d_c)));(case aF=>exact hfr.out _ HQ17.out.size);(case aO=>exact HO17.out);(case aB=>exact HQ17.out);(case aS=>exact HQ17.out.size);(case aL=>rw [HLT1.out];have:=HTT.out;have:=HOL.out;omega);intro v18 w18 ho18 hb18 hg18 hat18;have HO18:=am ho18;have HQ18:=am hb18;clear ho18 hb18 hg18 hat18)
        | ((with_reducible refine gate_builtin (b:=.append) (xs:=#[.tmp 107,.tmp 110]) rfl ?_);at_builtin;refine Kd.N_append_rows (Kd.slice 9 Kd.string) (w0:=w8) w8.heap.size rfl (.tmp 107) (.tmp 110) 52 35 (.slice none 0 0) 24 rfl Tryz.underlying52 infoSS rfl d_c o_m v18 (oc.take t ++ [cs]) (oc.drop t) A10 dl c10 (fun k_=>wE.heap.size ≤ k_ ∧ k_ ≠ g) (fun k_=>(wE.heap.size ≤ k_ ∧ k_ ≠ g) ∧ some k_ ≠ v18.ownBlock) rfl rfl ?aO ?aR (fun _ hk=>hk) ?aF ?aB ?aS ?aL ?_;(case aO=>exact HO18.out);(case aR=>exact Kd.F_mono (Kd.F_below HF2.out HQ18.out) (fun k_ hk_=>⟨hk_.1,fun e_=>by have h2:=Kd.N_base HO18.out k_ e_.symm;have h3:=hk_.2;omega⟩));(case aF=>exact hfr.out _ HQ18.out.size);(case aB=>exact HQ18.out);(case aS=>exact HQ18.out.size);(case aL=>have:=HTT.out;have:=HOL.out;have:=HDL.out;simp;omega);intro v19 w19 ho19 hb19 hg19 hat19;have HO19:=am ho19;have HQ19:=am hb19;clear ho19 hb19 hg19 hat19))
       obtain ⟨i1,hi1,_,hsz1,_⟩:=info_parts info9
       have HRM8:=am (Kd.R_reads' HHB.out).2.1
       have htl:(t:Int) ≤ (hl.length:Int):=by rw [HLEN.out];exact hto
       have hct:=cut_to (P:=Tryz.prog) 35 9 .i64 Tryz.underlying35 hi1 (some ⟨b8,o8,none⟩) hl.length c8 (t:Int) ht0 htl HRM8.out
       rw [Int.toNat_natCast] at hct
       obtain ⟨A11,hA11⟩:∃ A1,A1 = (if c8 = (t:Int).toNat then (some ⟨b8,o8,none⟩) else (some ⟨b8,o8,none⟩:Option Addr).map (·.add ((t:Int).toNat * 1))):=⟨_,rfl⟩
       obtain ⟨c11,hc11⟩:∃ c1,c1 = c8 - (t:Int).toNat:=⟨_,rfl⟩
       obtain ⟨dh,hdh⟩:∃ x,x = hl.length - (t:Int).toNat:=⟨_,rfl⟩
       have hcf:=cut_from (P:=Tryz.prog) 35 9 .i64 Tryz.underlying35 hi1 1 hsz1 (some ⟨b8,o8,none⟩) hl.length c8 (t:Int) ht0 htl
       have hC1:=Kd.C_drop (m:=(t:Int).toNat) (c:=c8) (Kd.R_reads' HHB.out).2.2 (by have:=HTT.out;rw [HLEN.out];omega) HRM8.out
       rw [List.length_drop,← hdh] at hC1
       rw [← hdh,← hA11,← hc11] at hcf
       have HC1:=am (show Kd.string.C w8 A11 dh (hl.drop t) by rw [hA11];rw [Int.toNat_natCast] at hC1 ⊢;exact hC1)
       have HDH:=am (show dh ≤ 300 by have:=HOL.out;have:=HLEN.out;omega)
       have HLTh:=am (show (hl.take t).length = t by rw [List.length_take];have:=HTT.out;have:=HLEN.out;omega)
       have HAL2:=am (show ((hl.take t).length + 1) * 16 ≤ 140737488355328 by rw [HLTh.out];have:=HTT.out;have:=HOL.out;omega)
       have HOWN:=am (fun W (hB:Below w19.heap.size w19 W)=>by
        have h:=spec_l1OwnS.calls (some ⟨b8,o8,none⟩) c8 (hl.take t) (hl.take t) W (Kd.C_below (Kd.C_take (Kd.R_reads' HHB.out).2.2 (by rw [HLEN.out];exact HTT.out)) (below_step HQ19.out hB)) (by rw [HLTh.out];have:=HRM8.out;have:=HTT.out;have:=HLEN.out;omega) (l1Own_f (by rw [HLTh.out];have:=HTT.out;have:=HOL.out;omega))
        rw [HLTh.out] at h
        exact h:∀ W,Below w19.heap.size w19 W → Calls Tryz.prog 84 #[.slice (some ⟨b8,o8,none⟩) t c8] W fun e w'=>∃ v,e = .returned v ∧ Kd.R Kd.string 9 w' W.heap.size (fun _=>True) v (hl.take t) ∧ Below W.heap.size W w')
       clear hsz1 hi1 hC1 hA11 hc11 hdh hcut hcutf
       have x15:=(HQ19.out.cell (World.block_lt_of_cell? w8 _ HD15.out)).trans HD15.out
       have X15:=am x15
       have HQ20:=am (show Below w19.heap.size w19 w19.drew from below_drew1 (Below.refl _ _))
       refine start_ (n:=10) (S:=fun w'=>w'.cell? ⟨b15,o15,none⟩ = some (.string hd)) (ds:=[]) (bm 10 0) k_r rfl rfl (x15) (fun hHeld=>?_)
       refine py0 (i:=0) (N:=some 112) (bm 10 1) ?_
       refine py0 (i:=1) (N:=some 113) (bm 10 3) ?_
       refine py0 (i:=2) (N:=some 114) (bm 10 7) ?_
       refine py0 (i:=4) (N:=some 116) (bm 10 23) ?_
       refine py0 (i:=5) (N:=some 117) (bm 10 55) ?_
       refine take_ (i:=6) (N:=some 118) (v:=?_) (a':=?_) (bm 10 119) rfl rfl k_r (fun _ _ _ h=>h) (Or.inl ⟨by rfl,?_⟩) hHeld ?_ ?_
       rotate_left
       ·intro w' s0
        go_simp
        with_reducible rfl
       rotate_left
       ·simp only [Act.put,ac_]
        rfl
       refine join_ (σ:=Value × Value) 2 #[true,true,true,true,true,true,true,true,false,false] (fun s_=>[(115,s_.1),(119,s_.2)]) (fun s_ w'=>(w'.cell? ⟨b15,o15,none⟩ = some (.string hd)) ∧ (Kd.R Kd.string 9 w' w19.heap.size (fun _=>True) s_.1 (hl.take t)) ∧ (Kd.R Kd.string 9 w' w19.heap.size (fun _=>True) s_.2 ([hd])) ∧ (Below w19.heap.size w19 w')) ?_ ?_
       rotate_left
       ·intro hCont
        refine two_ (i:=3) (j:=7) (Ni:=some 115) (Nj:=some 119) #[true,true,true,true,true,true,true,false,false,false] #[true,true,true,false,true,true,true,true,false,false] rfl rfl rfl rfl k_r d_c d_c (fun K hK=>?_) (fun K hK=>?_)
        ·skip
         refine goes_ Tryz.func84 k_r rfl #[.slice (some ⟨b8,o8,none⟩) t c8] (by rfl) rfl rfl (by (try simp only [List.map_toArray,List.map_cons,List.map_nil]);first | done | rfl) ?_
         refine (HOWN.out _ HQ20.out).mono ?_
         rintro e w21 ⟨v115,rfl,ho,hb⟩
         refine ⟨_,rfl,?_⟩
         have HOC:=am (Kd.R_lower ho HQ20.out.size)
         have HQC:=am (below_step HQ20.out hb)
         have hs_:=(hb.cell (World.block_lt_of_cell? _ _ hHeld)).trans hHeld
         clear ho hb
         refine hK.out _ _ (hs_) (fun hHeld=>?_)
         clear hK K
         refine nm (some 115) ?_
         refine one_ (i:=7) (N:=some 119) (bm 10 255) rfl rfl k_r d_c (fun K hK=>?_)
         refine Kd.R_lit_step Kd.string _ 9 ?hg (N:=119) ?hd (xs:=([hd]:List ByteArray)) (inner:=[.string hd]) (ok:=fun _=>True) (okp:=fun _=>True) ?hr ?hp (fun _ hk=>hk) trivial (Below.refl _ _) (Nat.le_refl _) (by simp) ?_
         case hd=>rfl
         case hg=>rfl
         case hr=>first | (go_simp;done) | (go_simp;rfl)
         case hp=>exact (Reps.one (show Kd.M Kd.string _ _ _ hd [.string hd] from rfl) (Reps.none _ _))
         intro v119 w22 ho hb hg_ hn_
         have HOL:=am (Kd.R_lower ho HQC.out.size)
         have HOM:=am (Kd.R_below HOC.out hb)
         have HQM:=am (below_step HQC.out hb)
         have hs_:=(hb.cell (World.block_lt_of_cell? _ _ hHeld)).trans hHeld
         clear ho hb hg_ hn_
         refine hK.out _ _ (hs_) (fun hHeld=>?_)
         clear hK K
         refine nm (some 119) ?_
         exact norm_ (by simp only [Go.YW.PrintLast.putAll,Act.put,List.setIfInBounds_toArray,List.set_cons_zero,List.set_cons_succ]) (hCont (v115,v119) _ ⟨hHeld,HOM.out,HOL.out,HQM.out⟩)
        ·skip
         refine Kd.R_lit_step Kd.string _ 9 ?hg (N:=119) ?hd (xs:=([hd]:List ByteArray)) (inner:=[.string hd]) (ok:=fun _=>True) (okp:=fun _=>True) ?hr ?hp (fun _ hk=>hk) trivial (Below.refl _ _) (Nat.le_refl _) (by simp) ?_
         case hd=>rfl
         case hg=>rfl
         case hr=>first | (go_simp;done) | (go_simp;rfl)
         case hp=>exact (Reps.one (show Kd.M Kd.string _ _ _ hd [.string hd] from rfl) (Reps.none _ _))
         intro v119 w21 ho hb hg_ hn_
         have HOL:=am (Kd.R_lower ho HQ20.out.size)
         have HQL:=am (below_step HQ20.out hb)
         have hs_:=(hb.cell (World.block_lt_of_cell? _ _ hHeld)).trans hHeld
         clear ho hb hg_ hn_
         refine hK.out _ _ (hs_) (fun hHeld=>?_)
         clear hK K
         refine nm (some 119) ?_
         refine one_ (i:=3) (N:=some 115) (bm 10 255) rfl rfl k_r d_c (fun K hK=>?_)
         refine goes_ Tryz.func84 k_r rfl #[.slice (some ⟨b8,o8,none⟩) t c8] (by rfl) rfl rfl (by (try simp only [List.map_toArray,List.map_cons,List.map_nil]);first | done | rfl) ?_
         refine (HOWN.out _ HQL.out).mono ?_
         rintro e w22 ⟨v115,rfl,ho,hb⟩
         refine ⟨_,rfl,?_⟩
         have HOC:=am (Kd.R_lower ho HQL.out.size)
         have HOM:=am (Kd.R_below HOL.out hb)
         have HQM:=am (below_step HQL.out hb)
         have hs_:=(hb.cell (World.block_lt_of_cell? _ _ hHeld)).trans hHeld
         clear ho hb
         refine hK.out _ _ (hs_) (fun hHeld=>?_)
         clear hK K
         refine nm (some 115) ?_
         exact norm_ (by simp only [Go.YW.PrintLast.putAll,Act.put,List.setIfInBounds_toArray,List.set_cons_zero,List.set_cons_succ]) (hCont (v115,v119) _ ⟨hHeld,HOC.out,HOM.out,HQM.out⟩)
       rintro ⟨v115,v119⟩ w23 ⟨hHeld,hn1,hn2,hn3⟩
       have HO115:=am hn1
       have HO119:=am hn2
       have HQ23:=am hn3
       clear hn1 hn2 hn3
       obtain ⟨A_,c_,rfl⟩:=Kd.R_slice HO119.out
       refine norm_ (a':=?_) ?_ ?_
       rotate_left
       ·simp only [Go.YW.PrintLast.putAll,Act.put,List.setIfInBounds_toArray,List.set_cons_zero,List.set_cons_succ]
        rfl
       refine one_ (i:=8) (N:=some 120) (bm 10 511) rfl rfl k_r d_c (fun K hK=>?_)
       refine Kd.R_append_rows_step Kd.string (w0:=w19) w19.heap.size (by rfl) (.tmp 115) (.tmp 119) 35 9 (.string ByteArray.empty) 16 rfl Tryz.underlying35 info9 rfl d_c o_m v115 (hl.take t) [hd] A_ 1 c_ (fun _=>True) (fun _=>False) rfl rfl HO115.out (Kd.R_reads' HO119.out).2.2 (fun _ _ h_=>h_) (fun _ h_=>h_.elim) (fun _ _=>trivial) HQ23.out HQ23.out.size HAL2.out ?_
       intro v120 w24 ho hb hg_ hat_
       have HO120:=am ho
       have HQ24:=am hb
       have hs_:w24.cell? ⟨b15,o15,none⟩ = some (.string hd):=(World.cell?_of_block (hg_.block b15 (World.block_lt_of_cell? _ _ hHeld) (fun e_=>by have h1:=Kd.R_base HO115.out _ e_.symm;have h2:=World.block_lt_of_cell? w19 _ X15.out;exact absurd h2 (Nat.not_lt.2 h1)))).trans hHeld
       clear ho hb hg_ hat_
       refine hK.out _ _ (hs_) (fun hHeld=>?_)
       clear hK K
       refine nm (some 120) ?_
       refine py0 (i:=9) (N:=some 17) (bm 10 1023) ?_
       refine done_ k_r ?_
       clear hHeld
       have HCD:=am (Kd.C_below HC1.out (below_step HQ19.out HQ24.out))
       go_wp2_with (first
        | ((with_reducible refine gate_builtin (b:=.append) (xs:=#[.tmp 121,.tmp 124]) rfl ?_);at_builtin;refine Kd.R_append_rows Kd.string (w0:=w19) w19.heap.size rfl (.tmp 121) (.tmp 124) 35 9 (.string ByteArray.empty) 16 rfl Tryz.underlying35 info9 rfl d_c o_m v120 (hl.take t ++ [hd]) (hl.drop t) A11 dh c11 (fun _=>True) (fun _=>False) rfl rfl ?aO ?aR (fun _ _ h_=>h_) (fun _ h_=>h_.elim) (fun _ _=>trivial) ?aB ?aS ?aL ?_;(case aO=>exact HO120.out);(case aR=>exact HCD.out);(case aB=>exact HQ24.out);(case aS=>exact HQ24.out.size);(case aL=>rw [List.length_append,HLTh.out];have:=HTT.out;have:=HOL.out;have:=HDH.out;simp;omega);intro v26 w26 ho26 hb26 hg26 hat26;have HO26:=am ho26;have HQ26:=am hb26;clear ho26 hb26 hg26 hat26))
       have HNEW:=am (show foldC TX NB n (L ++ [i]) = oc.take t ++ [cs] ++ oc.drop t by rw [HFS.out,HINS.out])
       have HHN:=am (show ((foldC TX NB n (L ++ [i])).map fun c=>c.getD 0 ByteArray.empty) = hl.take t ++ [hd] ++ hl.drop t by rw [HNEW.out,List.map_append,List.map_append,List.map_take,List.map_drop,HHL.out,List.map_cons,List.map_nil,HHD.out])
       have HDL2:=am (Kd.R_reads' HDB.out).1
       have HQ27:=am (below_step HQ19.out HQ26.out)
       go_roundw
       case rel=>exact ⟨i + 1,markP NB n i n D,L ++ [i],HL.out,by first | rfl | simp,HDL2.out.symm,by rw [List.length_append];have:=HLL.out;simp;omega,⟨by rw [HMF.out];exact HSEL.out⟩,⟨by rw [HHN.out];exact Kd.R_lower HO26.out (Nat.le_trans HE8.out.size HQ19.out.size)⟩,⟨by rw [HNEW.out];exact Kd.N_lower (Kd.N_below HO19.out HQ26.out) HE8.out.size⟩,⟨Kd.R_below HDB.out HQ27.out⟩,⟨below_step HE8.out HQ27.out⟩⟩
       case measure=>have:=HL.out;simp [intOf];omega
end Go.Proofs.YtldhkbiomingbaaGreatDoor.F

namespace Go.Proofs.YtldhkbiomingbaaGreatDoor.F
open Go.Proofs.YtldhkbiomingbaaGreatDoor
open Go.RowKit Go.YW.PrintWords Go.YW.PrintLast Go.YW.PrintMore
attribute [local go_sem] max2_int min2_int max_two min_two max_three min_three max_four min_four
mutual
def laws_FnExactClassesReached.j0:Nat → ByteArray → List (List ByteArray) → Bool → List (List ByteArray) → Bool → Option (Bool)
 | 0,_,_,_,_,_=>none
 | k + 1,x0,x3,x4,x5,x32=>if x32 = true then (some false) else ((laws_markStringSS.f k x5 1).bind fun bt110=>((laws_heldStringSS.f k bt110.2 1).bind fun t112=>(if t112 < 0 then (some false) else (if t112 = bt110.1 then ((impl_ClassesReached.f x0).bind fun bt113=>((laws_eqStringSS.f k bt113.1 x3).bind fun t117=>(if t117 = true then (laws_FnExactClassesReached.j1 k bt110.2 bt110.1 (bt113.2 != x4)) else (laws_FnExactClassesReached.j1 k bt110.2 bt110.1 true)))) else (some false)))))
def laws_FnExactClassesReached.j1:Nat → List (List ByteArray) → Int → Bool → Option (Bool)
 | 0,_,_,_=>none
 | k + 1,x5,x7,x57=>if x57 = true then (some false) else ((laws_heldStringSS.f k x5 1).bind fun t118=>(if t118 < 0 then (some false) else (if t118 = x7 then (some true) else (some false))))
end
def laws_FnExactClassesReached.f (k:Nat) (a0:ByteArray):Option (Bool):=if (a0.size:Int) > 1048576 then (some true) else ((spec_ClassesH.f a0).bind fun bt101=>((impl_ClassesReached.f a0).bind fun bt105=>((laws_eqStringSS.f k bt105.1 bt101.1).bind fun t109=>(if t109 = true then (laws_FnExactClassesReached.j0 k a0 bt101.1 bt101.2 bt105.1 (bt105.2 != bt101.2)) else (laws_FnExactClassesReached.j0 k a0 bt101.1 bt101.2 bt105.1 true)))))
theorem laws_FnExactClassesReached.mono_l:∀ k,(∀ y0 y1 y2 y3 y4,LeO (laws_FnExactClassesReached.j0 k y0 y1 y2 y3 y4) (laws_FnExactClassesReached.j0 (k + 1) y0 y1 y2 y3 y4)) ∧ (∀ y0 y1 y2,LeO (laws_FnExactClassesReached.j1 k y0 y1 y2) (laws_FnExactClassesReached.j1 (k + 1) y0 y1 y2))
 | 0=>⟨fun _ _ _ _ _ r h=>by simp [laws_FnExactClassesReached.j0] at h,fun _ _ _ r h=>by simp [laws_FnExactClassesReached.j1] at h⟩
 | k + 1=>by
  obtain ⟨ih0,ih1⟩:=laws_FnExactClassesReached.mono_l k
  refine ⟨?_,?_⟩
  ·intro y0 y1 y2 y3 y4
   unfold laws_FnExactClassesReached.j0
   have im0:=@laws_eqStringSS.mono;have im1:=@laws_heldStringSS.mono;have im2:=@laws_markStringSS.mono;exact mo
  ·intro y0 y1 y2
   unfold laws_FnExactClassesReached.j1
   have im0:=@laws_eqStringSS.mono;have im1:=@laws_heldStringSS.mono;have im2:=@laws_markStringSS.mono;exact mo
theorem laws_FnExactClassesReached.calls (k:Nat) (a0:ByteArray) (r:Bool) (w:World) (h:laws_FnExactClassesReached.f k a0 = some r) :
  Calls Tryz.prog 13 #[.string a0] w fun e w'=>e = .returned (.bool r) ∧ Below w.heap.size w w':=by
 have HB:=am (Below.refl w.heap.size w)
 have H:(if (a0.size:Int) > 1048576 then (some true) else ((spec_ClassesH.f a0).bind fun bt101=>((impl_ClassesReached.f a0).bind fun bt105=>((laws_eqStringSS.f k bt105.1 bt101.1).bind fun t109=>(if t109 = true then (laws_FnExactClassesReached.j0 k a0 bt101.1 bt101.2 bt105.1 (bt105.2 != bt101.2)) else (laws_FnExactClassesReached.j0 k a0 bt101.1 bt101.2 bt105.1 true)))))) = some r:=h
 clear h
 by_cases c2:(a0.size:Int) > 1048576
 ·rw [if_pos c2] at H
  have c2b0:decide (1048576 < (a0.size:Int)) = true:=decide_eq_true c2
  have c2b1:decide (1048576 < a0.size) = true:=decide_eq_true o_m
  clear c2
  obtain rfl:=Option.some.inj H
  go_enter Tryz.func13,Tryz.ntmps13
  go_wp2
  go_ret
  exact ⟨by first | rfl | (simp [errW_none,errW_some] <;> rfl) | (simp [*,errW_none,errW_some] <;> rfl),by repeat (first | (with_reducible first | exact HB.out | apply below_alloc | apply pw_below_drewN | apply below_drew1) | exact HB.out)⟩
 rw [if_neg c2] at H
 have c2b0:decide (1048576 < (a0.size:Int)) = false:=decide_eq_false c2
 have c2b1:decide (1048576 < a0.size) = false:=decide_eq_false o_m
 clear c2
 replace H:=Option.bind_eq_some_iff.mp H
 obtain ⟨⟨t101,t102⟩,A30,H⟩:=H
 replace H:((impl_ClassesReached.f a0).bind fun bt105=>((laws_eqStringSS.f k bt105.1 t101).bind fun t109=>(if t109 = true then (laws_FnExactClassesReached.j0 k a0 t101 t102 bt105.1 (bt105.2 != t102)) else (laws_FnExactClassesReached.j0 k a0 t101 t102 bt105.1 true)))) = some r:=H
 have A3:=am A30
 clear A30
 replace H:=Option.bind_eq_some_iff.mp H
 obtain ⟨⟨t105,t106⟩,A40,H⟩:=H
 replace H:((laws_eqStringSS.f k t105 t101).bind fun t109=>(if t109 = true then (laws_FnExactClassesReached.j0 k a0 t101 t102 t105 (t106 != t102)) else (laws_FnExactClassesReached.j0 k a0 t101 t102 t105 true))) = some r:=H
 have A4:=am A40
 clear A40
 have HC5:=am H
 clear H
 go_enter Tryz.func13,Tryz.ntmps13
 go_upto_region 5 with (first | ((with_reducible refine gate_callee (f:=43) rfl ?_);refine goesL_ (some 16) rfl rfl Tryz.func43 k_r rfl #[.string a0] rfl (by (try simp only [List.map_toArray,List.map_cons,List.map_nil]);first | done | rfl | (simp only [List.length_drop,List.length_take];rfl)) ?_;(with_reducible refine (spec_ClassesH.calls a0 t101 t102 _ A3.out).mono ?_);rintro e w6 ⟨v103,rfl,ho0,hb⟩;refine ⟨_,rfl,?_⟩;have HO104:=am (Kd.N_lower ho0 (below_size (by repeat (first | (with_reducible first | exact HB.out | apply below_alloc | apply pw_below_drewN | apply below_drew1) | exact HB.out))));replace HB:=am (below_step (by repeat (first | (with_reducible first | exact HB.out | apply below_alloc | apply pw_below_drewN | apply below_drew1) | exact HB.out)) hb);(try clear hb);(try clear ho0)) | ((with_reducible refine gate_callee (f:=44) rfl ?_);refine goesL_ (some 21) rfl rfl Tryz.func44 k_r rfl #[.string a0] rfl (by (try simp only [List.map_toArray,List.map_cons,List.map_nil]);first | done | rfl | (simp only [List.length_drop,List.length_take];rfl)) ?_;(with_reducible refine (impl_ClassesReached.calls a0 t105 t106 _ A4.out).mono ?_);rintro e w7 ⟨v107,rfl,ho0,hb⟩;refine ⟨_,rfl,?_⟩;replace HO104:=am (Kd.N_mono (Kd.N_old HO104.out hb) (fun k hk=>hk.2));have HO108:=am (Kd.S_lower (Kd.S_mono (Kd.S_bound ho0) (fun k hk=>hk.2.1)) (below_size (by repeat (first | (with_reducible first | exact HB.out | apply below_alloc | apply pw_below_drewN | apply below_drew1) | exact HB.out))));replace HB:=am (below_step (by repeat (first | (with_reducible first | exact HB.out | apply below_alloc | apply pw_below_drewN | apply below_drew1) | exact HB.out)) hb);(try clear hb);(try clear ho0)))
 (try simp only [Act.put,List.setIfInBounds_toArray,List.set_cons_zero,List.set_cons_succ])
 go_cut [32] (fun v32 wc=>∃ (kq:Nat) (x32_4:Bool),v32 = .bool x32_4 ∧ Aside0 (laws_FnExactClassesReached.j0 kq a0 t101 t102 t105 x32_4 = some r) ∧ Aside0 (kq ≤ k) ∧ Aside0 (Kd.N (Kd.slice 9 Kd.string) 35 wc w.heap.size (fun k_=>k_ < w6.heap.size) v103 t101) ∧ Aside0 (Kd.S (Kd.slice 9 Kd.string) 35 wc w.heap.size (fun k_=>w6.heap.size ≤ k_) v107 t105) ∧ Aside0 (Below w.heap.size w wc))
 case first =>
  have H:=HC5.out
  clear HC5
  replace H:=Option.bind_eq_some_iff.mp H
  obtain ⟨t109,A80,H⟩:=H
  replace H:(if t109 = true then (laws_FnExactClassesReached.j0 k a0 t101 t102 t105 (t106 != t102)) else (laws_FnExactClassesReached.j0 k a0 t101 t102 t105 true)) = some r:=H
  have A8:=am A80
  clear A80
  by_cases c9:t109 = true
  ·subst c9
   have H1:(laws_FnExactClassesReached.j0 k a0 t101 t102 t105 (t106 != t102)) = some r:=by rw [if_pos rfl] at H;exact H
   clear H
   have H:=H1
   clear H1
   have H':=am H
   clear H
   obtain ⟨Ao10,co10,eo10⟩:=Kd.S_slice HO108.out
   subst eo10
   obtain ⟨Ao11,co11,eo11⟩:=Kd.N_slice HO104.out
   subst eo11
   go_wp2_with (first | ((with_reducible refine gate_callee (f:=45) rfl ?_);refine goesL_ (some 26) rfl rfl Tryz.func45 k_r rfl #[.slice Ao10 t105.length co10,.slice Ao11 t101.length co11] rfl (by (try simp only [List.map_toArray,List.map_cons,List.map_nil]);first | done | rfl | (simp only [List.length_drop,List.length_take];rfl)) ?_;(with_reducible refine (laws_eqStringSS.calls k _ _ t105 _ _ t101 true _ ?side1 ?side2 ?side3 ?side4 A8.out).mono ?_);(case side1=>repeat (first | exact (Kd.S_reads' HO108.out).2.2 | (with_reducible refine Kd.C_alloc ?_ _) | (with_reducible refine Kd.C_drewN ?_ _) | (with_reducible refine Kd.C_drew ?_)));(case side2=>exact (Kd.S_reads' HO108.out).2.1);(case side3=>repeat (first | exact (Kd.N_reads' HO104.out).2.2 | (with_reducible refine Kd.C_alloc ?_ _) | (with_reducible refine Kd.C_drewN ?_ _) | (with_reducible refine Kd.C_drew ?_)));(case side4=>exact (Kd.N_reads' HO104.out).2.1);rintro e w' ⟨rfl,⟨nd,rfl⟩⟩;refine ⟨_,rfl,?_⟩))
   go_meet
   case rel=>exact ⟨_,((t106 != t102)),(by first | rfl | (simp;done) | (simp [*];done)),H',⟨by first | omega | exact Nat.le_refl _⟩,⟨by (with_reducible repeat (first | apply Kd.S_alloc | apply Kd.S_drewN | apply Kd.S_drew));exact Kd.N_mono HO104.out (fun _ hk=>hk)⟩,⟨by (with_reducible repeat (first | apply Kd.S_alloc | apply Kd.S_drewN | apply Kd.S_drew));exact Kd.S_mono HO108.out (fun _ hk=>hk)⟩,⟨by repeat (first | (with_reducible first | exact HB.out | apply below_alloc | apply pw_below_drewN | apply below_drew1) | exact HB.out)⟩⟩
  replace c9:=Bool.eq_false_iff.mpr c9
  subst c9
  have H1:(laws_FnExactClassesReached.j0 k a0 t101 t102 t105 true) = some r:=by rw [if_neg (show ¬ (false = true) by decide)] at H;exact H
  clear H
  have H:=H1
  clear H1
  have H':=am H
  clear H
  obtain ⟨Ao12,co12,eo12⟩:=Kd.S_slice HO108.out
  subst eo12
  obtain ⟨Ao13,co13,eo13⟩:=Kd.N_slice HO104.out
  subst eo13
  go_wp2_with (first | ((with_reducible refine gate_callee (f:=45) rfl ?_);refine goesL_ (some 26) rfl rfl Tryz.func45 k_r rfl #[.slice Ao12 t105.length co12,.slice Ao13 t101.length co13] rfl (by (try simp only [List.map_toArray,List.map_cons,List.map_nil]);first | done | rfl | (simp only [List.length_drop,List.length_take];rfl)) ?_;(with_reducible refine (laws_eqStringSS.calls k _ _ t105 _ _ t101 false _ ?side1 ?side2 ?side3 ?side4 A8.out).mono ?_);(case side1=>repeat (first | exact (Kd.S_reads' HO108.out).2.2 | (with_reducible refine Kd.C_alloc ?_ _) | (with_reducible refine Kd.C_drewN ?_ _) | (with_reducible refine Kd.C_drew ?_)));(case side2=>exact (Kd.S_reads' HO108.out).2.1);(case side3=>repeat (first | exact (Kd.N_reads' HO104.out).2.2 | (with_reducible refine Kd.C_alloc ?_ _) | (with_reducible refine Kd.C_drewN ?_ _) | (with_reducible refine Kd.C_drew ?_)));(case side4=>exact (Kd.N_reads' HO104.out).2.1);rintro e w' ⟨rfl,⟨nd,rfl⟩⟩;refine ⟨_,rfl,?_⟩))
  go_meet
  case rel=>exact ⟨_,(true),(by first | rfl | (simp;done) | (simp [*];done)),H',⟨by first | omega | exact Nat.le_refl _⟩,⟨by (with_reducible repeat (first | apply Kd.S_alloc | apply Kd.S_drewN | apply Kd.S_drew));exact Kd.N_mono HO104.out (fun _ hk=>hk)⟩,⟨by (with_reducible repeat (first | apply Kd.S_alloc | apply Kd.S_drewN | apply Kd.S_drew));exact Kd.S_mono HO108.out (fun _ hk=>hk)⟩,⟨by repeat (first | (with_reducible first | exact HB.out | apply below_alloc | apply pw_below_drewN | apply below_drew1) | exact HB.out)⟩⟩
 case rest =>
  clear HC5
  try clear c1
  try clear c2
  try clear c2b0
  try clear c2b1
  try clear p2
  try clear c4
  try clear c9
  try clear c13
  obtain ⟨kq,x32_4,rfl,HA,HJ4,HO_3,HO_5,HB⟩:=hcut
  cases kq with
  | zero=>exact absurd HA.out (by simp [laws_FnExactClassesReached.j0])
  | succ kj4 =>
   have H:=HA.out
   clear HA
   simp only [laws_FnExactClassesReached.j0] at H
   by_cases c14:x32_4 = true
   ·subst c14
    have H1:(some false) = some r:=by rw [if_pos rfl] at H;exact H
    clear H
    have H:=H1
    clear H1
    obtain rfl:=Option.some.inj H
    go_wp2
    go_ret
    exact ⟨by first | rfl | (simp [errW_none,errW_some] <;> rfl) | (simp [*,errW_none,errW_some] <;> rfl),by repeat (first | (with_reducible first | exact HB.out | apply below_alloc | apply pw_below_drewN | apply below_drew1) | exact HB.out)⟩
   replace c14:=Bool.eq_false_iff.mpr c14
   subst c14
   have H1:((laws_markStringSS.f kj4 t105 1).bind fun bt110=>((laws_heldStringSS.f kj4 bt110.2 1).bind fun t112=>(if t112 < 0 then (some false) else (if t112 = bt110.1 then ((impl_ClassesReached.f a0).bind fun bt113=>((laws_eqStringSS.f kj4 bt113.1 t101).bind fun t117=>(if t117 = true then (laws_FnExactClassesReached.j1 kj4 bt110.2 bt110.1 (bt113.2 != t102)) else (laws_FnExactClassesReached.j1 kj4 bt110.2 bt110.1 true)))) else (some false))))) = some r:=by rw [if_neg (show ¬ (false = true) by decide)] at H;exact H
   clear H
   have H:=H1
   clear H1
   replace H:=Option.bind_eq_some_iff.mp H
   obtain ⟨⟨t110,t111⟩,A150,H⟩:=H
   replace H:((laws_heldStringSS.f kj4 t111 1).bind fun t112=>(if t112 < 0 then (some false) else (if t112 = t110 then ((impl_ClassesReached.f a0).bind fun bt113=>((laws_eqStringSS.f kj4 bt113.1 t101).bind fun t117=>(if t117 = true then (laws_FnExactClassesReached.j1 kj4 t111 t110 (bt113.2 != t102)) else (laws_FnExactClassesReached.j1 kj4 t111 t110 true)))) else (some false)))) = some r:=H
   have A15:=am A150
   clear A150
   replace H:=Option.bind_eq_some_iff.mp H
   obtain ⟨t112,A160,H⟩:=H
   replace H:(if t112 < 0 then (some false) else (if t112 = t110 then ((impl_ClassesReached.f a0).bind fun bt113=>((laws_eqStringSS.f kj4 bt113.1 t101).bind fun t117=>(if t117 = true then (laws_FnExactClassesReached.j1 kj4 t111 t110 (bt113.2 != t102)) else (laws_FnExactClassesReached.j1 kj4 t111 t110 true)))) else (some false))) = some r:=H
   have A16:=am A160
   clear A160
   by_cases c17:t112 < 0
   ·rw [if_pos c17] at H
    have c17b0:decide (t112 < 0) = true:=decide_eq_true c17
    clear c17
    obtain rfl:=Option.some.inj H
    obtain ⟨Ao18,co18,eo18⟩:=Kd.S_slice HO_5.out
    subst eo18
    go_wp2_with (first | ((with_reducible refine gate_callee (f:=46) rfl ?_);refine goesL_ (some 35) rfl rfl Tryz.func46 k_r rfl #[.slice Ao18 t105.length co18,.int .i64 1] rfl (by (try simp only [List.map_toArray,List.map_cons,List.map_nil]);first | done | rfl | (simp only [List.length_drop,List.length_take];rfl)) ?_;(with_reducible refine (laws_markStringSS.calls kj4 (fun k_=>w6.heap.size ≤ k_) (.slice Ao18 t105.length co18) t105 1 t110 t111 w _ ?side1 ?side2 A15.out).mono ?_);(case side1=>repeat (first | (with_reducible first | exact HB.out | apply below_alloc | apply pw_below_drewN | apply below_drew1) | exact HB.out));(case side2=>exact HO_5.out);rintro e w19 ⟨rfl,hy0,hb,hkp⟩;refine ⟨_,rfl,?_⟩;replace HO_3:=am (Kd.N_kept HO_3.out hkp (fun k hk hs=>absurd hk (Nat.not_lt.2 hs)));replace HO_5:=am (hy0);replace HB:=am (hb);(try clear hb);(try clear hkp);(try clear hy0)) | ((with_reducible refine gate_callee (f:=47) rfl ?_);refine goesL_ (some 38) rfl rfl Tryz.func47 k_r rfl #[.slice Ao18 t111.length co18,.int .i64 1] rfl (by (try simp only [List.map_toArray,List.map_cons,List.map_nil]);first | done | (rw [show t111.length = t105.length from (Kd.S_reads' HO_5.out).1.symm] <;> rfl) | rfl | (simp only [List.length_drop,List.length_take];rfl)) ?_;(with_reducible refine (laws_heldStringSS.calls kj4 _ _ t111 1 t112 _ ?side1 ?side2 A16.out).mono ?_);(case side1=>repeat (first | exact (Kd.S_reads' HO_5.out).2.2 | (with_reducible refine Kd.C_alloc ?_ _) | (with_reducible refine Kd.C_drewN ?_ _) | (with_reducible refine Kd.C_drew ?_)));(case side2=>rw [show t111.length = t105.length from (Kd.S_reads' HO_5.out).1.symm];exact (Kd.S_reads' HO_5.out).2.1);rintro e w20 ⟨rfl,hb⟩;refine ⟨_,rfl,?_⟩;replace HO_3:=am (Kd.N_below (by (with_reducible repeat (first | apply Kd.N_alloc | apply Kd.N_drewN | apply Kd.N_drew));exact HO_3.out) hb);replace HO_5:=am (Kd.S_below (by (with_reducible repeat (first | apply Kd.S_alloc | apply Kd.S_drewN | apply Kd.S_drew));exact HO_5.out) hb);replace HB:=am (below_step (by repeat (first | (with_reducible first | exact HB.out | apply below_alloc | apply pw_below_drewN | apply below_drew1) | exact HB.out)) hb);(try clear hb)))
    go_ret
    exact ⟨by first | rfl | (simp [errW_none,errW_some] <;> rfl) | (simp [*,errW_none,errW_some] <;> rfl),by repeat (first | (with_reducible first | exact HB.out | apply below_alloc | apply pw_below_drewN | apply below_drew1) | exact HB.out)⟩
   rw [if_neg c17] at H
   have c17b0:decide (t112 < 0) = false:=decide_eq_false c17
   clear c17
   by_cases c21:t112 = t110
   rotate_left
   ·rw [if_neg c21] at H
    have c21b0:(t112 == t110) = false:=beq_eq_false_iff_ne.mpr c21
    have c21b1:(t112 != t110) = true:=bne_iff_ne.mpr c21
    obtain rfl:=Option.some.inj H
    obtain ⟨Ao41,co41,eo41⟩:=Kd.S_slice HO_5.out
    subst eo41
    go_wp2_with (first | ((with_reducible refine gate_callee (f:=46) rfl ?_);refine goesL_ (some 35) rfl rfl Tryz.func46 k_r rfl #[.slice Ao41 t105.length co41,.int .i64 1] rfl (by (try simp only [List.map_toArray,List.map_cons,List.map_nil]);first | done | rfl | (simp only [List.length_drop,List.length_take];rfl)) ?_;(with_reducible refine (laws_markStringSS.calls kj4 (fun k_=>w6.heap.size ≤ k_) (.slice Ao41 t105.length co41) t105 1 t110 t111 w _ ?side1 ?side2 A15.out).mono ?_);(case side1=>repeat (first | (with_reducible first | exact HB.out | apply below_alloc | apply pw_below_drewN | apply below_drew1) | exact HB.out));(case side2=>exact HO_5.out);rintro e w42 ⟨rfl,hy0,hb,hkp⟩;refine ⟨_,rfl,?_⟩;replace HO_3:=am (Kd.N_kept HO_3.out hkp (fun k hk hs=>absurd hk (Nat.not_lt.2 hs)));replace HO_5:=am (hy0);replace HB:=am (hb);(try clear hb);(try clear hkp);(try clear hy0)) | ((with_reducible refine gate_callee (f:=47) rfl ?_);refine goesL_ (some 38) rfl rfl Tryz.func47 k_r rfl #[.slice Ao41 t111.length co41,.int .i64 1] rfl (by (try simp only [List.map_toArray,List.map_cons,List.map_nil]);first | done | (rw [show t111.length = t105.length from (Kd.S_reads' HO_5.out).1.symm] <;> rfl) | rfl | (simp only [List.length_drop,List.length_take];rfl)) ?_;(with_reducible refine (laws_heldStringSS.calls kj4 _ _ t111 1 t112 _ ?side1 ?side2 A16.out).mono ?_);(case side1=>repeat (first | exact (Kd.S_reads' HO_5.out).2.2 | (with_reducible refine Kd.C_alloc ?_ _) | (with_reducible refine Kd.C_drewN ?_ _) | (with_reducible refine Kd.C_drew ?_)));(case side2=>rw [show t111.length = t105.length from (Kd.S_reads' HO_5.out).1.symm];exact (Kd.S_reads' HO_5.out).2.1);rintro e w43 ⟨rfl,hb⟩;refine ⟨_,rfl,?_⟩;replace HO_3:=am (Kd.N_below (by (with_reducible repeat (first | apply Kd.N_alloc | apply Kd.N_drewN | apply Kd.N_drew));exact HO_3.out) hb);replace HO_5:=am (Kd.S_below (by (with_reducible repeat (first | apply Kd.S_alloc | apply Kd.S_drewN | apply Kd.S_drew));exact HO_5.out) hb);replace HB:=am (below_step (by repeat (first | (with_reducible first | exact HB.out | apply below_alloc | apply pw_below_drewN | apply below_drew1) | exact HB.out)) hb);(try clear hb)))
    go_ret
    exact ⟨by first | rfl | (simp [errW_none,errW_some] <;> rfl) | (simp [*,errW_none,errW_some] <;> rfl),by repeat (first | (with_reducible first | exact HB.out | apply below_alloc | apply pw_below_drewN | apply below_drew1) | exact HB.out)⟩
   rw [if_pos c21] at H
   have c21b0:(t112 == t110) = true:=beq_iff_eq.mpr c21
   have c21b1:(t112 != t110) = false:=bne_eq_false_iff_eq.mpr c21
   clear c21
   replace H:=Option.bind_eq_some_iff.mp H
   obtain ⟨⟨t113,t114⟩,A220,H⟩:=H
   replace H:((laws_eqStringSS.f kj4 t113 t101).bind fun t117=>(if t117 = true then (laws_FnExactClassesReached.j1 kj4 t111 t110 (t114 != t102)) else (laws_FnExactClassesReached.j1 kj4 t111 t110 true))) = some r:=H
   have A22:=am A220
   clear A220
   have HC23:=am H
   clear H
   obtain ⟨Ao24,co24,eo24⟩:=Kd.S_slice HO_5.out
   subst eo24
   go_upto_region 16 with (first | ((with_reducible refine gate_callee (f:=46) rfl ?_);refine goesL_ (some 35) rfl rfl Tryz.func46 k_r rfl #[.slice Ao24 t105.length co24,.int .i64 1] rfl (by (try simp only [List.map_toArray,List.map_cons,List.map_nil]);first | done | rfl | (simp only [List.length_drop,List.length_take];rfl)) ?_;(with_reducible refine (laws_markStringSS.calls kj4 (fun k_=>w6.heap.size ≤ k_) (.slice Ao24 t105.length co24) t105 1 t110 t111 w _ ?side1 ?side2 A15.out).mono ?_);(case side1=>repeat (first | (with_reducible first | exact HB.out | apply below_alloc | apply pw_below_drewN | apply below_drew1) | exact HB.out));(case side2=>exact HO_5.out);rintro e w25 ⟨rfl,hy0,hb,hkp⟩;refine ⟨_,rfl,?_⟩;replace HO_3:=am (Kd.N_kept HO_3.out hkp (fun k hk hs=>absurd hk (Nat.not_lt.2 hs)));replace HO_5:=am (hy0);replace HB:=am (hb);(try clear hb);(try clear hkp);(try clear hy0)) | ((with_reducible refine gate_callee (f:=47) rfl ?_);refine goesL_ (some 38) rfl rfl Tryz.func47 k_r rfl #[.slice Ao24 t111.length co24,.int .i64 1] rfl (by (try simp only [List.map_toArray,List.map_cons,List.map_nil]);first | done | (rw [show t111.length = t105.length from (Kd.S_reads' HO_5.out).1.symm] <;> rfl) | rfl | (simp only [List.length_drop,List.length_take];rfl)) ?_;(with_reducible refine (laws_heldStringSS.calls kj4 _ _ t111 1 t112 _ ?side1 ?side2 A16.out).mono ?_);(case side1=>repeat (first | exact (Kd.S_reads' HO_5.out).2.2 | (with_reducible refine Kd.C_alloc ?_ _) | (with_reducible refine Kd.C_drewN ?_ _) | (with_reducible refine Kd.C_drew ?_)));(case side2=>rw [show t111.length = t105.length from (Kd.S_reads' HO_5.out).1.symm];exact (Kd.S_reads' HO_5.out).2.1);rintro e w26 ⟨rfl,hb⟩;refine ⟨_,rfl,?_⟩;replace HO_3:=am (Kd.N_below (by (with_reducible repeat (first | apply Kd.N_alloc | apply Kd.N_drewN | apply Kd.N_drew));exact HO_3.out) hb);replace HO_5:=am (Kd.S_below (by (with_reducible repeat (first | apply Kd.S_alloc | apply Kd.S_drewN | apply Kd.S_drew));exact HO_5.out) hb);replace HB:=am (below_step (by repeat (first | (with_reducible first | exact HB.out | apply below_alloc | apply pw_below_drewN | apply below_drew1) | exact HB.out)) hb);(try clear hb)) | ((with_reducible refine gate_callee (f:=44) rfl ?_);refine goesL_ (some 46) rfl rfl Tryz.func44 k_r rfl #[.string a0] rfl (by (try simp only [List.map_toArray,List.map_cons,List.map_nil]);first | done | rfl | (simp only [List.length_drop,List.length_take];rfl)) ?_;(with_reducible refine (impl_ClassesReached.calls a0 t113 t114 _ A22.out).mono ?_);rintro e w27 ⟨v115,rfl,ho0,hb⟩;refine ⟨_,rfl,?_⟩;replace HO_3:=am (Kd.N_below (by (with_reducible repeat (first | apply Kd.N_alloc | apply Kd.N_drewN | apply Kd.N_drew));exact HO_3.out) hb);replace HO_5:=am (Kd.S_below (by (with_reducible repeat (first | apply Kd.S_alloc | apply Kd.S_drewN | apply Kd.S_drew));exact HO_5.out) hb);have HO116:=am (Kd.S_lower ho0 (below_size (by repeat (first | (with_reducible first | exact HB.out | apply below_alloc | apply pw_below_drewN | apply below_drew1) | exact HB.out))));replace HB:=am (below_step (by repeat (first | (with_reducible first | exact HB.out | apply below_alloc | apply pw_below_drewN | apply below_drew1) | exact HB.out)) hb);(try clear hb);(try clear ho0)))
   (try simp only [Act.put,List.setIfInBounds_toArray,List.set_cons_zero,List.set_cons_succ])
   go_cut [57] (fun v57 wc=>∃ (kq:Nat) (x57_22:Bool),v57 = .bool x57_22 ∧ Aside0 (laws_FnExactClassesReached.j1 kq t111 t110 x57_22 = some r) ∧ Aside0 (kq ≤ kj4) ∧ Aside0 (Kd.S (Kd.slice 9 Kd.string) 35 wc w.heap.size (fun _=>True) (.slice Ao24 t105.length co24) t111) ∧ Aside0 (Below w.heap.size w wc))
   case first =>
    have H:=HC23.out
    clear HC23
    replace H:=Option.bind_eq_some_iff.mp H
    obtain ⟨t117,A280,H⟩:=H
    replace H:(if t117 = true then (laws_FnExactClassesReached.j1 kj4 t111 t110 (t114 != t102)) else (laws_FnExactClassesReached.j1 kj4 t111 t110 true)) = some r:=H
    have A28:=am A280
    clear A280
    by_cases c29:t117 = true
    ·subst c29
     have H1:(laws_FnExactClassesReached.j1 kj4 t111 t110 (t114 != t102)) = some r:=by rw [if_pos rfl] at H;exact H
     clear H
     have H:=H1
     clear H1
     have H':=am H
     clear H
     obtain ⟨Ao30,co30,eo30⟩:=Kd.S_slice HO116.out
     subst eo30
     obtain ⟨Ao31,co31,eo31⟩:=Kd.N_slice HO_3.out
     subst eo31
     go_wp2_with (first | ((with_reducible refine gate_callee (f:=45) rfl ?_);refine goesL_ (some 51) rfl rfl Tryz.func45 k_r rfl #[.slice Ao30 t113.length co30,.slice Ao31 t101.length co31] rfl (by (try simp only [List.map_toArray,List.map_cons,List.map_nil]);first | done | rfl | (simp only [List.length_drop,List.length_take];rfl)) ?_;(with_reducible refine (laws_eqStringSS.calls kj4 _ _ t113 _ _ t101 true _ ?side1 ?side2 ?side3 ?side4 A28.out).mono ?_);(case side1=>repeat (first | exact (Kd.S_reads' HO116.out).2.2 | (with_reducible refine Kd.C_alloc ?_ _) | (with_reducible refine Kd.C_drewN ?_ _) | (with_reducible refine Kd.C_drew ?_)));(case side2=>exact (Kd.S_reads' HO116.out).2.1);(case side3=>repeat (first | exact (Kd.N_reads' HO_3.out).2.2 | (with_reducible refine Kd.C_alloc ?_ _) | (with_reducible refine Kd.C_drewN ?_ _) | (with_reducible refine Kd.C_drew ?_)));(case side4=>exact (Kd.N_reads' HO_3.out).2.1);rintro e w' ⟨rfl,⟨nd,rfl⟩⟩;refine ⟨_,rfl,?_⟩))
     go_meet
     case rel=>exact ⟨_,((t114 != t102)),(by first | rfl | (simp;done) | (simp [*];done)),H',⟨by have:=HJ4.out;first | omega | exact Nat.le_refl _⟩,⟨by (with_reducible repeat (first | apply Kd.S_alloc | apply Kd.S_drewN | apply Kd.S_drew));exact Kd.S_mono HO_5.out (fun _ hk=>trivial)⟩,⟨by repeat (first | (with_reducible first | exact HB.out | apply below_alloc | apply pw_below_drewN | apply below_drew1) | exact HB.out)⟩⟩
    replace c29:=Bool.eq_false_iff.mpr c29
    subst c29
    have H1:(laws_FnExactClassesReached.j1 kj4 t111 t110 true) = some r:=by rw [if_neg (show ¬ (false = true) by decide)] at H;exact H
    clear H
    have H:=H1
    clear H1
    have H':=am H
    clear H
    obtain ⟨Ao32,co32,eo32⟩:=Kd.S_slice HO116.out
    subst eo32
    obtain ⟨Ao33,co33,eo33⟩:=Kd.N_slice HO_3.out
    subst eo33
    go_wp2_with (first | ((with_reducible refine gate_callee (f:=45) rfl ?_);refine goesL_ (some 51) rfl rfl Tryz.func45 k_r rfl #[.slice Ao32 t113.length co32,.slice Ao33 t101.length co33] rfl (by (try simp only [List.map_toArray,List.map_cons,List.map_nil]);first | done | rfl | (simp only [List.length_drop,List.length_take];rfl)) ?_;(with_reducible refine (laws_eqStringSS.calls kj4 _ _ t113 _ _ t101 false _ ?side1 ?side2 ?side3 ?side4 A28.out).mono ?_);(case side1=>repeat (first | exact (Kd.S_reads' HO116.out).2.2 | (with_reducible refine Kd.C_alloc ?_ _) | (with_reducible refine Kd.C_drewN ?_ _) | (with_reducible refine Kd.C_drew ?_)));(case side2=>exact (Kd.S_reads' HO116.out).2.1);(case side3=>repeat (first | exact (Kd.N_reads' HO_3.out).2.2 | (with_reducible refine Kd.C_alloc ?_ _) | (with_reducible refine Kd.C_drewN ?_ _) | (with_reducible refine Kd.C_drew ?_)));(case side4=>exact (Kd.N_reads' HO_3.out).2.1);rintro e w' ⟨rfl,⟨nd,rfl⟩⟩;refine ⟨_,rfl,?_⟩))
    go_meet
    case rel=>exact ⟨_,(true),(by first | rfl | (simp;done) | (simp [*];done)),H',⟨by have:=HJ4.out;first | omega | exact Nat.le_refl _⟩,⟨by (with_reducible repeat (first | apply Kd.S_alloc | apply Kd.S_drewN | apply Kd.S_drew));exact Kd.S_mono HO_5.out (fun _ hk=>trivial)⟩,⟨by repeat (first | (with_reducible first | exact HB.out | apply below_alloc | apply pw_below_drewN | apply below_drew1) | exact HB.out)⟩⟩
   case rest =>
    clear HC23
    try clear c1
    try clear c2
    try clear c2b0
    try clear c2b1
    try clear p2
    try clear c4
    try clear c9
    try clear c13
    try clear c14
    try clear c17
    try clear c17b0
    try clear c21
    try clear c21b0
    try clear c21b1
    try clear c26
    try clear c27
    try clear c28
    try clear c29
    try clear p2
    obtain ⟨kq,x57_22,rfl,HA,HJ22,HO_5,HB⟩:=hcut
    have hl5_22:=(Kd.S_reads' HO_5.out).1
    rw [hl5_22] at HO_5
    (try simp only [hl5_22])
    cases kq with
    | zero=>exact absurd HA.out (by simp [laws_FnExactClassesReached.j1])
    | succ kj22 =>
     have H:=HA.out
     clear HA
     simp only [laws_FnExactClassesReached.j1] at H
     by_cases c34:x57_22 = true
     ·subst c34
      have H1:(some false) = some r:=by rw [if_pos rfl] at H;exact H
      clear H
      have H:=H1
      clear H1
      obtain rfl:=Option.some.inj H
      go_wp2
      go_ret
      exact ⟨by first | rfl | (simp [errW_none,errW_some] <;> rfl) | (simp [*,errW_none,errW_some] <;> rfl),by repeat (first | (with_reducible first | exact HB.out | apply below_alloc | apply pw_below_drewN | apply below_drew1) | exact HB.out)⟩
     replace c34:=Bool.eq_false_iff.mpr c34
     subst c34
     have H1:((laws_heldStringSS.f kj22 t111 1).bind fun t118=>(if t118 < 0 then (some false) else (if t118 = t110 then (some true) else (some false)))) = some r:=by rw [if_neg (show ¬ (false = true) by decide)] at H;exact H
     clear H
     have H:=H1
     clear H1
     replace H:=Option.bind_eq_some_iff.mp H
     obtain ⟨t118,A350,H⟩:=H
     replace H:(if t118 < 0 then (some false) else (if t118 = t110 then (some true) else (some false))) = some r:=H
     have A35:=am A350
     clear A350
     by_cases c36:t118 < 0
     ·rw [if_pos c36] at H
      have c36b0:decide (t118 < 0) = true:=decide_eq_true c36
      clear c36
      obtain rfl:=Option.some.inj H
      go_wp2_with (first | ((with_reducible refine gate_callee (f:=47) rfl ?_);refine goesL_ (some 60) rfl rfl Tryz.func47 k_r rfl #[.slice Ao24 t111.length co24,.int .i64 1] rfl (by (try simp only [List.map_toArray,List.map_cons,List.map_nil]);first | done | rfl | (simp only [List.length_drop,List.length_take];rfl)) ?_;(with_reducible refine (laws_heldStringSS.calls kj22 _ _ t111 1 t118 _ ?side1 ?side2 A35.out).mono ?_);(case side1=>repeat (first | exact (Kd.S_reads' HO_5.out).2.2 | (with_reducible refine Kd.C_alloc ?_ _) | (with_reducible refine Kd.C_drewN ?_ _) | (with_reducible refine Kd.C_drew ?_)));(case side2=>exact (Kd.S_reads' HO_5.out).2.1);rintro e w37 ⟨rfl,hb⟩;refine ⟨_,rfl,?_⟩;replace HO_5:=am (Kd.S_below (by (with_reducible repeat (first | apply Kd.S_alloc | apply Kd.S_drewN | apply Kd.S_drew));exact HO_5.out) hb);replace HB:=am (below_step (by repeat (first | (with_reducible first | exact HB.out | apply below_alloc | apply pw_below_drewN | apply below_drew1) | exact HB.out)) hb);(try clear hb)))
      go_ret
      exact ⟨by first | rfl | (simp [errW_none,errW_some] <;> rfl) | (simp [*,errW_none,errW_some] <;> rfl),by repeat (first | (with_reducible first | exact HB.out | apply below_alloc | apply pw_below_drewN | apply below_drew1) | exact HB.out)⟩
     rw [if_neg c36] at H
     have c36b0:decide (t118 < 0) = false:=decide_eq_false c36
     clear c36
     by_cases c38:t118 = t110
     rotate_left
     ·rw [if_neg c38] at H
      have c38b0:(t118 == t110) = false:=beq_eq_false_iff_ne.mpr c38
      have c38b1:(t118 != t110) = true:=bne_iff_ne.mpr c38
      obtain rfl:=Option.some.inj H
      go_wp2_with (first | ((with_reducible refine gate_callee (f:=47) rfl ?_);refine goesL_ (some 60) rfl rfl Tryz.func47 k_r rfl #[.slice Ao24 t111.length co24,.int .i64 1] rfl (by (try simp only [List.map_toArray,List.map_cons,List.map_nil]);first | done | rfl | (simp only [List.length_drop,List.length_take];rfl)) ?_;(with_reducible refine (laws_heldStringSS.calls kj22 _ _ t111 1 t118 _ ?side1 ?side2 A35.out).mono ?_);(case side1=>repeat (first | exact (Kd.S_reads' HO_5.out).2.2 | (with_reducible refine Kd.C_alloc ?_ _) | (with_reducible refine Kd.C_drewN ?_ _) | (with_reducible refine Kd.C_drew ?_)));(case side2=>exact (Kd.S_reads' HO_5.out).2.1);rintro e w40 ⟨rfl,hb⟩;refine ⟨_,rfl,?_⟩;replace HO_5:=am (Kd.S_below (by (with_reducible repeat (first | apply Kd.S_alloc | apply Kd.S_drewN | apply Kd.S_drew));exact HO_5.out) hb);replace HB:=am (below_step (by repeat (first | (with_reducible first | exact HB.out | apply below_alloc | apply pw_below_drewN | apply below_drew1) | exact HB.out)) hb);(try clear hb)))
      go_ret
      exact ⟨by first | rfl | (simp [errW_none,errW_some] <;> rfl) | (simp [*,errW_none,errW_some] <;> rfl),by repeat (first | (with_reducible first | exact HB.out | apply below_alloc | apply pw_below_drewN | apply below_drew1) | exact HB.out)⟩
     rw [if_pos c38] at H
     have c38b0:(t118 == t110) = true:=beq_iff_eq.mpr c38
     have c38b1:(t118 != t110) = false:=bne_eq_false_iff_eq.mpr c38
     clear c38
     obtain rfl:=Option.some.inj H
     go_wp2_with (first | ((with_reducible refine gate_callee (f:=47) rfl ?_);refine goesL_ (some 60) rfl rfl Tryz.func47 k_r rfl #[.slice Ao24 t111.length co24,.int .i64 1] rfl (by (try simp only [List.map_toArray,List.map_cons,List.map_nil]);first | done | rfl | (simp only [List.length_drop,List.length_take];rfl)) ?_;(with_reducible refine (laws_heldStringSS.calls kj22 _ _ t111 1 t118 _ ?side1 ?side2 A35.out).mono ?_);(case side1=>repeat (first | exact (Kd.S_reads' HO_5.out).2.2 | (with_reducible refine Kd.C_alloc ?_ _) | (with_reducible refine Kd.C_drewN ?_ _) | (with_reducible refine Kd.C_drew ?_)));(case side2=>exact (Kd.S_reads' HO_5.out).2.1);rintro e w39 ⟨rfl,hb⟩;refine ⟨_,rfl,?_⟩;replace HO_5:=am (Kd.S_below (by (with_reducible repeat (first | apply Kd.S_alloc | apply Kd.S_drewN | apply Kd.S_drew));exact HO_5.out) hb);replace HB:=am (below_step (by repeat (first | (with_reducible first | exact HB.out | apply below_alloc | apply pw_below_drewN | apply below_drew1) | exact HB.out)) hb);(try clear hb)))
     go_ret
     exact ⟨by first | rfl | (simp [errW_none,errW_some] <;> rfl) | (simp [*,errW_none,errW_some] <;> rfl),by repeat (first | (with_reducible first | exact HB.out | apply below_alloc | apply pw_below_drewN | apply below_drew1) | exact HB.out)⟩
end Go.Proofs.YtldhkbiomingbaaGreatDoor.F

namespace Go.Proofs.YtldhkbiomingbaaGreatDoor.F
open Go.RowKit Go.Proofs.YtldhkbiomingbaaGreatDoor Go.YW.PrintWords Go.YW.PrintMore
theorem markSm_ev (l:List ByteArray) (m:Nat) (hl:l.length ≤ 1000) (hm:m ≤ 95000):Ev (fun k=>laws_markStringS.f k l (m:Int)) (((m + l.length:Nat):Int),marksT m l.length):=by
 have h0:=markS_l0 l m hl hm l.length 0 o_m
 exact h0
theorem heldSm_ev (m n:Nat) (hn:n ≤ 1000) (hm:m ≤ 95000):Ev (fun k=>laws_heldStringS.f k (marksT m n) (m:Int)) ((m + n:Nat):Int):=by
 have h0:=heldS_l0 m n hn hm n 0 o_m
 exact h0
theorem rdRow (X:List (List ByteArray)) (i:Nat) (h:i < X.length):rd_L6 X (i:Int) = X[i]'h:=by
 show X.getD (i:Int).toNat [] = _
 rw [Int.toNat_natCast,List.getD_eq_getElem?_getD,List.getElem?_eq_getElem h];rfl
theorem eqISS_l0 (C:List (List ByteArray)) (hC:C.length ≤ 1000) (hr:∀ c ∈ C,c.length ≤ 1000):∀ (n i:Nat),i + n = C.length → Ev (fun k=>laws_eqStringSS.l0 k C C (i:Int)) true
 | 0,i,hi=>Ev.step (f:=fun _=>some true) (fun k=>by rw [laws_eqStringSS.l0,if_neg o_m]) (Ev.now _)
 | n + 1,i,hi=>by
  have hil:i < C.length:=by omega
  have HW:Aside0 (wrap64 ((i:Int) + 1) = ((i + 1:Nat):Int)):=⟨by rw [w64 o_m o_m];rfl⟩
  have hl:=hr _ (List.getElem_mem hil)
  refine Ev.step (f:=fun k=>(laws_eqStringS.f k (C[i]'hil) (C[i]'hil)).bind fun t103=>if t103 = true then laws_eqStringSS.l0 k C C ((i + 1:Nat):Int) else some false) (fun k=>?_) (Ev.bind (eqS_ev _ o_m) (Ev.congr (fun k=>if_pos rfl) (eqISS_l0 C hC hr n (i + 1) o_m)))
  rw [laws_eqStringSS.l0,if_pos o_m,if_pos o_m,if_pos o_m,rdRow C i hil,HW.out]
theorem eqISS_ev (C:List (List ByteArray)) (hC:C.length ≤ 1000) (hr:∀ c ∈ C,c.length ≤ 1000):Ev (fun k=>laws_eqStringSS.f k C C) true :=
 Ev.congr (fun k=>by rw [laws_eqStringSS.f,if_pos rfl];rfl) (eqISS_l0 C hC hr C.length 0 o_m)
noncomputable def marksTT:Nat → List (List ByteArray) → List (List ByteArray)
 | _,[]=>[]
 | m,c :: C=>marksT m c.length :: marksTT (m + c.length) C
theorem marksTT_length:∀ (C:List (List ByteArray)) (m:Nat),(marksTT m C).length = C.length
 | [],m=>rfl
 | c :: C,m=>by show (marksTT (m + c.length) C).length + 1 = _;rw [marksTT_length C];rfl
theorem markSS_l0:∀ (C A:List (List ByteArray)) (m:Nat),A.length + C.length ≤ 1000 → m + C.flatten.length ≤ 94000 → (∀ c ∈ C,c.length ≤ 1000) →
  Ev (fun k=>laws_markStringSS.l0 k (A ++ C) (m:Int) (A.length:Int)) (((m + C.flatten.length:Nat):Int),A ++ marksTT m C)
 | [],A,m,hl,hm,hc=>by
  refine Ev.step (f:=fun _=>some ((m:Int),A)) (fun k=>?_) (by simpa [marksTT] using Ev.now ((m:Int),A))
  rw [laws_markStringSS.l0,List.append_nil,if_neg o_m]
 | c :: C,A,m,hl,hm,hc=>by
  have hlen:(A ++ c :: C).length = A.length + (C.length + 1):=by simp
  simp only [List.flatten_cons,List.length_append,List.length_cons] at hl hm
  have HW:Aside0 (wrap64 ((A.length:Int) + 1) = ((A.length + 1:Nat):Int)):=⟨by rw [w64 o_m o_m];rfl⟩
  have hrd:rd_L6 (A ++ c :: C) (A.length:Int) = c:=by
   rw [rdRow _ _ o_m,List.getElem_append_right (Nat.le_refl _)]
   simp
  have hset:(A ++ c :: C).set A.length (marksT m c.length) = (A ++ [marksT m c.length]) ++ C:=by
   rw [List.set_append_right _ _ (Nat.le_refl _),Nat.sub_self,List.set_cons_zero];simp
  have ih:=markSS_l0 C (A ++ [marksT m c.length]) (m + c.length) (by simp;omega) o_m (fun d hd=>hc d (List.mem_cons_of_mem _ hd))
  have e1:(A ++ [marksT m c.length]).length = A.length + 1:=by simp
  rw [e1] at ih
  have e2:(((m + (c :: C).flatten.length:Nat):Int),A ++ marksTT m (c :: C)) = (((m + c.length + C.flatten.length:Nat):Int),(A ++ [marksT m c.length]) ++ marksTT (m + c.length) C):=by
   rw [List.append_assoc]
   refine Prod.ext ?_ rfl
   show ((m + (c :: C).flatten.length:Nat):Int) = _
   rw [List.flatten_cons,List.length_append,Nat.add_assoc]
  rw [e2]
  refine Ev.step (f:=fun k=>(laws_markStringS.f k c (m:Int)).bind fun bt=>laws_markStringSS.l0 k ((A ++ c :: C).set A.length bt.2) bt.1 ((A.length + 1:Nat):Int)) (fun k=>?_) (Ev.bind (markSm_ev c m (hc c List.mem_cons_self) o_m) ?_)
  ·rw [laws_markStringSS.l0,if_pos o_m,if_pos o_m,hrd,Int.toNat_natCast,HW.out]
  ·simp only
   rw [hset]
   exact ih
theorem markSS_ev (C:List (List ByteArray)) (m:Nat) (hl:C.length ≤ 1000) (hm:m + C.flatten.length ≤ 94000) (hc:∀ c ∈ C,c.length ≤ 1000):Ev (fun k=>laws_markStringSS.f k C (m:Int)) (((m + C.flatten.length:Nat):Int),marksTT m C):=by
 have h0:=markSS_l0 C [] m (by simpa using hl) hm hc
 exact h0
theorem heldSS_l0:∀ (C A:List (List ByteArray)) (m:Nat),A.length + C.length ≤ 1000 → m + C.flatten.length ≤ 94000 → (∀ c ∈ C,c.length ≤ 1000) →
  Ev (fun k=>laws_heldStringSS.l0 k (A ++ marksTT m C) (m:Int) (A.length:Int)) ((m + C.flatten.length:Nat):Int)
 | [],A,m,hl,hm,hc=>by
  refine Ev.step (f:=fun _=>some (m:Int)) (fun k=>?_) (by simpa using Ev.now (m:Int))
  rw [laws_heldStringSS.l0,marksTT,List.append_nil,if_neg o_m]
 | c :: C,A,m,hl,hm,hc=>by
  have hlen:(A ++ marksTT m (c :: C)).length = A.length + (C.length + 1):=by rw [List.length_append,marksTT_length];rfl
  simp only [List.flatten_cons,List.length_append,List.length_cons] at hl hm
  have HW:Aside0 (wrap64 ((A.length:Int) + 1) = ((A.length + 1:Nat):Int)):=⟨by rw [w64 o_m o_m];rfl⟩
  have e0:A ++ marksTT m (c :: C) = (A ++ [marksT m c.length]) ++ marksTT (m + c.length) C:=by rw [List.append_assoc];rfl
  have hrd:rd_L6 (A ++ marksTT m (c :: C)) (A.length:Int) = marksT m c.length:=by
   rw [rdRow _ _ o_m,List.getElem_append_right (Nat.le_refl _)]
   simp [marksTT]
  have ih:=heldSS_l0 C (A ++ [marksT m c.length]) (m + c.length) (by simp;omega) o_m (fun d hd=>hc d (List.mem_cons_of_mem _ hd))
  have e1:(A ++ [marksT m c.length]).length = A.length + 1:=by simp
  rw [e1,← e0] at ih
  have e2:((m + (c :: C).flatten.length:Nat):Int) = ((m + c.length + C.flatten.length:Nat):Int):=by
   rw [List.flatten_cons,List.length_append,Nat.add_assoc]
  rw [e2]
  refine Ev.step (f:=fun k=>(laws_heldStringS.f k (marksT m c.length) (m:Int)).bind fun t102=>if t102 < 0 then some (-1) else laws_heldStringSS.l0 k (A ++ marksTT m (c :: C)) t102 ((A.length + 1:Nat):Int)) (fun k=>?_) (Ev.bind (heldSm_ev m c.length (hc c List.mem_cons_self) o_m) (Ev.congr (fun k=>if_neg o_m) ih))
  rw [laws_heldStringSS.l0,if_pos o_m,if_pos o_m,hrd,HW.out]
theorem heldSS_ev (C:List (List ByteArray)) (m:Nat) (hl:C.length ≤ 1000) (hm:m + C.flatten.length ≤ 94000) (hc:∀ c ∈ C,c.length ≤ 1000):Ev (fun k=>laws_heldStringSS.f k (marksTT m C) (m:Int)) ((m + C.flatten.length:Nat):Int):=by
 have h0:=heldSS_l0 C [] m (by simpa using hl) hm hc
 exact h0
theorem firsts_len (M:Nat → Nat → Bool) (n:Nat):(firsts M n).length ≤ n:=by
 unfold firsts
 exact Nat.le_trans (List.length_filter_le _ _) (by simp)
theorem insC_mem {c d:List ByteArray} {o:List (List ByteArray)} (h:d ∈ insC c o):d = c ∨ d ∈ o:=List.mem_cons.1 ((insBy_perm hdB (fun a b=>a < b) c o).mem_iff.1 h)
theorem foldC_mem {tx:Nat → ByteArray} {N:List (List Nat)} {n:Nat}:∀ (L:List Nat) (o:List (List ByteArray)),(∀ c ∈ o,c.length ≤ n) → ∀ c ∈ L.foldl (fun o i=>insC (sortB (classR tx N n i n)) o) o,c.length ≤ n
 | [],o,ho,c,hc=>ho c hc
 | i :: L,o,ho,c,hc=>foldC_mem L _ (fun d hd=>by
   rcases insC_mem hd with rfl | hd
   ·rw [sortB_len];exact classR_len
   ·exact ho d hd) c hc
theorem flatten_le:∀ (C:List (List ByteArray)) (m:Nat),(∀ c ∈ C,c.length ≤ m) → C.flatten.length ≤ C.length * m
 | [],m,_=>by simp
 | c :: C,m,h=>by
  have h1:=h c List.mem_cons_self
  have h2:=flatten_le C m (fun d hd=>h d (List.mem_cons_of_mem _ hd))
  rw [List.flatten_cons,List.length_append,List.length_cons,Nat.succ_mul]
  omega
theorem classA_small (t:ByteArray):(classA t).1.length ≤ 300 ∧ ∀ c ∈ (classA t).1,c.length ≤ 300:=by
 unfold classA
 cases hs:srch t with
 | none=>exact ⟨by simp,fun c hc=>(by cases hc)⟩
 | some q =>
  obtain ⟨w,h,s⟩:=q
  obtain ⟨cs,_,_,_,_,o⟩:=srch_some hs
  have hm:=o.ok.most
  simp only
  refine ⟨by rw [foldC_len _ _ rfl];exact Nat.le_trans (firsts_len _ _) hm,fun c hc=>Nat.le_trans (foldC_mem _ [] (fun d hd=>(by cases hd)) c hc) hm⟩
theorem FnExactClassesReached (a:ByteArray) (ha:a.size ≤ 9223372036854775807):∃ k,laws_FnExactClassesReached.f k a = some true:=by
 refine Ev.rounds (g:=fun k=>laws_FnExactClassesReached.f k a) ?_
 unfold laws_FnExactClassesReached.f
 by_cases c0:(a.size:Int) > 1048576
 ·exact Ev.congr (fun k=>if_pos c0) (Ev.now _)
 have hI:impl_ClassesReached.f a = some (classA a):=by unfold impl_ClassesReached.f;rw [if_pos o_m]
 have hS:Ev (fun k=>spec_ClassesH.f a) (classA a):=Ev.now _
 obtain ⟨l1,l2⟩:=classA_small a
 generalize classA a = R at hI hS l1 l2
 obtain ⟨D,q⟩:=R
 have hfl:D.flatten.length ≤ 90000:=Nat.le_trans (flatten_le D 300 l2) (Nat.mul_le_mul_right 300 l1)
 have hE:=eqISS_ev D (Nat.le_trans l1 d_c) (fun c hc=>Nat.le_trans (l2 c hc) d_c)
 have hM:Ev (fun k=>laws_markStringSS.f k D 1) (((1 + D.flatten.length:Nat):Int),marksTT 1 D):=markSS_ev D 1 (Nat.le_trans l1 d_c) o_m (fun c hc=>Nat.le_trans (l2 c hc) d_c)
 have hH:Ev (fun k=>laws_heldStringSS.f k (marksTT 1 D) 1) ((1 + D.flatten.length:Nat):Int):=heldSS_ev D 1 (Nat.le_trans l1 d_c) o_m (fun c hc=>Nat.le_trans (l2 c hc) d_c)
 have hj1:Ev (fun k=>laws_FnExactClassesReached.j1 k (marksTT 1 D) ((1 + D.flatten.length:Nat):Int) false) true:=by
  refine Ev.step (fun k=>by rw [laws_FnExactClassesReached.j1,if_neg Bool.false_ne_true]) (Ev.bind hH ?_)
  exact Ev.congr (fun k=>by rw [if_neg o_m,if_pos rfl]) (Ev.now _)
 have hj0:Ev (fun k=>laws_FnExactClassesReached.j0 k a D q D false) true:=by
  refine Ev.step (fun k=>by rw [laws_FnExactClassesReached.j0,if_neg Bool.false_ne_true]) (Ev.bind hM (Ev.bind hH ?_))
  refine Ev.congr (fun k=>by rw [if_neg o_m,if_pos rfl,hI,Option.bind_some]) (Ev.bind hE ?_)
  refine Ev.congr (fun k=>if_pos rfl) ?_
  rw [bne_self_eq_false]
  exact hj1
 refine Ev.congr (fun k=>by rw [if_neg c0]) (Ev.bind hS (Ev.congr (fun k=>by rw [hI,Option.bind_some]) (Ev.bind hE ?_)))
 refine Ev.congr (fun k=>if_pos rfl) ?_
 rw [bne_self_eq_false]
 exact hj0
end Go.Proofs.YtldhkbiomingbaaGreatDoor.F
