/- The proof that the law's row holds, part 2: the kit's words, the printed walks and the plain law. No conditions beyond the card's own. -/
import Derived.Maps.RangeWalk
import Derived.StillTailTactics
import Derived.Maps.OwnOps
import Derived.Shelf.SlicesE.IndexFunc
import Derived.Test.YtldhkbiomingbaaGreatDoorK0
import Derived.Test.YtldhkbiomingbaaGreatDoorK1
set_option linter.unusedVariables false
set_option linter.unusedSimpArgs false
set_option maxHeartbeats 8000000
set_option maxRecDepth 100000
namespace Go.Proofs.YtldhkbiomingbaaGreatDoor
open Go.RowKit Go.YW.PrintWords Go.YW.PrintLast Go.YW.PrintMore Go.Lib Go.Shelf Go.Proofs.YtldhkbiomingbaaGreatDoor.F Go.Maps
attribute [local go_sem] max2_int min2_int
theorem int_keys:Keyed Tryz.prog 3:=int_keyed Tryz.underlying3
def MapAt (w:World) (b:Nat) (m:List (Nat × Nat)):Prop:=∃ n,n ≤ m.length ∧ w.ownsMap Tryz.prog 3 (plainElem (H:=Unit) Tryz.prog 3) b n (mapOf m)
theorem MapAt.kept {w w':World} {b:Nat} {m:List (Nat × Nat)} {row:Option Nat} (h:MapAt w b m) (hg:w.grownBy w' row) (hne:some b ≠ row):MapAt w' b m:=by
 obtain ⟨n,hn,h⟩:=h;exact ⟨n,hn,h.kept hg hne⟩
theorem MapAt.lt {w:World} {b:Nat} {m:List (Nat × Nat)} (h:MapAt w b m):b < w.heap.size:=by obtain ⟨n,_,h⟩:=h;exact h.lt
theorem MapAt.block {w w':World} {b:Nat} {m:List (Nat × Nat)} (h:MapAt w b m) (hb:w'.heap[b]? = w.heap[b]?):MapAt w' b m:=by
 obtain ⟨n,hn,es,clock,h1,h2⟩:=h
 exact ⟨n,hn,es,clock,hb.trans h1,h2⟩
theorem MapAt.below {w w':World} {b:Nat} {m:List (Nat × Nat)} (h:MapAt w b m) (hb:Below w.heap.size w w'):MapAt w' b m:=h.block (hb.block b h.lt)
theorem own_below {w w':World} {b n:Nat} {D:DataW Unit} (h:w.ownsMap Tryz.prog 3 (plainElem (H:=Unit) Tryz.prog 3) b n D) (hb:Below w.heap.size w w'):w'.ownsMap Tryz.prog 3 (plainElem (H:=Unit) Tryz.prog 3) b n D:=by
 have hlt:=h.lt
 obtain ⟨es,clock,h1,h2⟩:=h
 exact ⟨es,clock,(hb.block b hlt).trans h1,h2⟩
theorem ranges_block {w w':World} {b r n:Nat} {D:DataW Unit} {left:Lit → Bool} {cnt:Nat} (h:w.ranges Tryz.prog 3 (plainElem (H:=Unit) Tryz.prog 3) b r n D left cnt) (hb:w'.heap[b]? = w.heap[b]?) (hr:w'.heap[r]? = w.heap[r]?) :
  w'.ranges Tryz.prog 3 (plainElem (H:=Unit) Tryz.prog 3) b r n D left cnt:=by
 obtain ⟨es,clock,since,seen,c0,h1,h2,h3,h4,h5,h6⟩:=h
 exact ⟨es,clock,since,seen,c0,hb.trans h1,h2,h3,h4,hr.trans h5,h6⟩
theorem blk_far_eq (w:World) {p:Addr} {k:Nat} (h:p.block ≠ k) (u:Value):(w.setCell p u).heap[k]? = w.heap[k]?:=Below.heap_setCell w p u k (Ne.symm h)
theorem cells_of {n:Nat} (cs:List Int) (ts:List Value) (j:Nat) (hj:j < cs.length) (v:Int):((cs.map (Value.int .u8) ++ ts).toArray.setIfInBounds j (.int .u8 v)) = ((cs.set j v).map (Value.int .u8) ++ ts).toArray:=by
 rw [List.setIfInBounds_toArray,List.set_append_left _ _ (by rw [List.length_map];exact hj),List.map_set]
theorem cells_get (cs:List Int) (ts:List Value) (j:Nat) (hj:j < cs.length):((cs.map (Value.int .u8) ++ ts).toArray)[j]? = some (.int .u8 (cs.getD j 0)):=by
 rw [List.getElem?_toArray,List.getElem?_append_left (by rw [List.length_map];exact hj),List.getElem?_map,List.getElem?_eq_getElem hj,getD_at hj];rfl
theorem impl_tray_carried.calls (a0 a1:Int) (A2:Option Addr) (c2:Nat) (l2:List Int) (b:Nat) (m:List (Nat × Nat)) (w:World) (hr2:Kd.C (Kd.int .u8) w A2 l2.length l2) (hc2:l2.length ≤ c2)
  (hl:0 < l2.length ∧ l2.length < 65536) (hm:MapAt w b m) (hn:(m.map Prod.fst).Nodup) (hs:(m.map Prod.snd).Nodup) (hlt:∀ p ∈ m,p.1 < l2.length ∧ p.2 < l2.length) :
  Calls Tryz.prog 124 #[.agg #[.int .i64 a0,.int .i64 a1,.slice A2 l2.length c2],.map (some b)] w fun e w'=>∃ v2_:Value,e = .returned (.agg #[.int .i64 a0,.int .i64 a1,v2_]) ∧ Kd.R (Kd.int .u8) 5 w' w.heap.size (fun _=>True) v2_ (putAll l2 (wallsL l2) m) ∧ Below w.heap.size w w':=by
 obtain ⟨n,_,hown⟩:=hm
 have hemp:impl_tray_emptied.f a0 a1 l2 = some (a0,a1,wallsL l2):=if_pos hl
 have HOWN:=am hown
 have HR:=am hr2
 have HC:=am hc2
 have HL:=am hl
 have HN:=am hn
 have HS:=am hs
 have HLT:=am hlt
 obtain ⟨sb,so,rfl,hsb,hscells⟩:=C_place hr2 hl.1
 have hcall:∀ W,Below w.heap.size w W → Calls Tryz.prog 171 #[.agg #[.int .i64 a0,.int .i64 a1,.slice (some ⟨sb,so,none⟩) l2.length c2]] W fun e w'=>∃ g co ts,e = .returned (.agg #[.int .i64 a0,.int .i64 a1,.slice (some ⟨g,0,none⟩) l2.length co]) ∧ W.heap.size ≤ g ∧ l2.length ≤ co ∧ w'.heap[g]? = some (.cells ((wallsL l2).map (Value.int .u8) ++ ts).toArray 5 (0,0)) ∧ ts.length + l2.length = co ∧ co ≤ maxLen ∧ Below W.heap.size W w':=fun W hW=>by
  refine (impl_tray_emptied.calls a0 a1 _ c2 l2 a0 a1 (wallsL l2) W (Kd.C_below HR.out hW) HC.out hemp).mono ?_
  rintro e w' ⟨v2,rfl,ho,hb⟩
  have hwl:(wallsL l2).length = l2.length:=by simp [wallsL]
  obtain ⟨_,⟨rfl,h0⟩ | ⟨g,cap,cur,rfl,hg,hrow,hcl,hcm,hsz,htk⟩⟩:=Kd.own_of_R (enc:=Value.int .u8) (h1:=fun _=>rfl) ho
  ·have:=HL.out;omega
  ·rw [hwl] at hcl htk
   refine ⟨g,cap,cur.toList.drop l2.length,by rw [hwl],hg,hcl,?_,?_,hcm,hb⟩
   ·rw [hrow]
    congr 2
    have:(wallsL l2).map (Value.int .u8) ++ cur.toList.drop l2.length = cur.toList:=by
     rw [show (wallsL l2).map (Value.int .u8) = cur.toList.take l2.length from by rw [← encs,← htk,Nat.mul_one]]
     exact List.take_append_drop _ _
    rw [this]
   ·rw [List.length_drop,Array.length_toList];omega
 have HSC:=am hscells
 have HSB:=am hsb
 have HB:=am (Below.refl w.heap.size w)
 clear hown hr2 hc2 hl hn hs hlt hemp hscells hsb
 go_enter Tryz.func124,Tryz.ntmps124
 go_wp2_with (first
  | (refine bx 2 #[.int .i64 a0,.int .i64 a1,.slice (some ⟨sb,so,none⟩) l2.length c2] 65 ?_;intro b1 hg1 w3 hbox1 hb1;have G1:=am hg1;have X1:=am hbox1;have B1:=am hb1;clear hg1 hbox1 hb1)
  | (refine bx 4 #[.int .i64 0,.int .i64 0,.slice none 0 0] 65 ?_;intro b2 hg2 w4 hbox2 hb2;have G2:=am hg2;have X2:=am hbox2;have B2:=am (below_step B1.out hb2);have n1:=am (blk_below X1.out hb2);clear X1;have X1:=n1;clear n1;have z10:w4.cell? ⟨b1,0,none⟩ = some (.int .i64 a0):=(blk_cell X1.out 0).trans rfl;have z11:w4.cell? ⟨b1,1,none⟩ = some (.int .i64 a1):=(blk_cell X1.out 1).trans rfl;have z12:w4.cell? ⟨b1,2,none⟩ = some (.slice (some ⟨sb,so,none⟩) l2.length c2):=(blk_cell X1.out 2).trans rfl;clear hg2 hbox2 hb2)
  | (go_at_call 171;refine (hcall _ B2.out).mono ?_;rintro e w5 ⟨g,co,ts,rfl,hg0,hco,hrow,hts,hcb,hb⟩;have G0:=am hg0;have HCO:=am hco;have HROW:=am hrow;have HTS:=am hts;have HCB:=am hcb;have B5:=am (below_step B2.out hb);have n2:=am (blk_below X2.out hb);have n1:=am (blk_below X1.out hb);clear X1 X2;have X2:=n2;have X1:=n1;clear n1 n2 hb hg0 hco hrow hts hcb z10 z11 z12)
  | (at_range;obtain ⟨b3,hb3⟩:∃ b3,w5.heap.size = b3:=⟨_,rfl⟩;obtain ⟨W8,hW8⟩:∃ W8,w5.alloc (.cells #[.int .i64 a0,.int .i64 a1,.slice (some ⟨g,0,none⟩) l2.length co] 65) = W8:=⟨_,rfl⟩;have hB58:Below b3 w5 W8:=(by rw [← hW8,← hb3];exact (Below.refl _ w5).alloc (Nat.le_refl _) _);have hB8:Below w.heap.size w W8:=(by rw [← hW8];exact B5.out.alloc B5.out.size _);have hsz:W8.heap.size = b3 + 1:=(by rw [← hW8,← hb3];simp);have x3:W8.heap[b3]? = some (.cells #[.int .i64 a0,.int .i64 a1,.slice (some ⟨g,0,none⟩) l2.length co] 65 (0,0)):=(by rw [← hW8,← hb3];exact World.alloc_heap_new w5 _);rw [hW8];(try simp only [hb3]);have HB58:=am hB58;have HB8:=am hB8;have HSZ:=am hsz;have X3:=am x3;have HW8:=am hb3;clear hB58 hB8 hsz x3 hW8 hb3;refine wpList_range_own _ rfl (.tmp 10) 147 rfl 3 3 int_keys Tryz.underlying147 (plainElem (H:=Unit) Tryz.prog 3) b n (mapOf m) rfl (own_below HOWN.out HB8.out) ?_;intro w0 hrg0 hg0 hs0;obtain ⟨b4,hb4⟩:∃ b4,W8.heap.size = b4:=⟨_,rfl⟩;rw [hb4] at hrg0 ⊢;have HB4:=am hb4;clear hb4;have HRG0:=am hrg0;have HG0:=am hg0;clear hrg0 hg0 hs0))
 go_frame
 have hgw:w.heap.size ≤ g:=Nat.le_trans B2.out.size G0.out
 have hg5:g < b3:=by rw [← HW8.out];exact blk_lt HROW.out
 have h1w:w.heap.size ≤ b1:=by rw [G1.out];exact Nat.le_refl _
 have h2w:w.heap.size ≤ b2:=by rw [G2.out];exact B1.out.size
 have h3w:w.heap.size ≤ b3:=by rw [← HW8.out];exact B5.out.size
 have h15:b1 < b3:=by rw [← HW8.out];exact blk_lt X1.out
 have h25:b2 < b3:=by rw [← HW8.out];exact blk_lt X2.out
 have hbw:b < w.heap.size:=HOWN.out.lt
 have HP:=am (And.intro hgw (And.intro hg5 (And.intro h1w (And.intro h2w (And.intro h3w (And.intro h15 (And.intro h25 hbw)))))))
 have hg08:=HG0.out
 have hsz8:=HSZ.out
 have ROW:=am (show w0.heap[g]? = some (.cells ((putAll l2 (wallsL l2) (came m (Maps.has (mapOf m)))).map (Value.int .u8) ++ ts).toArray 5 (0,0)) from by
  rw [came_start,putAll_nil]
  exact (hg08.block g o_m (by simp)).trans ((HB58.out.block g hg5).trans HROW.out))
 have Y3:=am ((hg08.block b3 o_m (by simp)).trans X3.out)
 have Y1:=am ((hg08.block b1 o_m (by simp)).trans ((HB58.out.block b1 h15).trans X1.out))
 have Y2:=am ((hg08.block b2 o_m (by simp)).trans ((HB58.out.block b2 h25).trans X2.out))
 have HB0:=am (HB8.out.grown hg08 HB8.out.size (fun _ h=>by cases h))
 have h34:b4 = b3 + 1:=HB4.out.symm.trans hsz8
 have H34:=am h34
 clear h34 hgw hg5 h1w h2w h3w h15 h25 hbw hg08 hsz8 hcall X1 X2 X3 HROW B5 B1 B2 G0 G1 G2 HB58 HB8 HG0 HW8 HB4 HSZ
 go_loopw [6] (fun v6 wr=>∃ (left:Lit → Bool) (cnt:Nat),Aside0 (wr.ranges Tryz.prog 3 (plainElem (H:=Unit) Tryz.prog 3) b b4 n (mapOf m) left cnt) ∧ Aside0 (∀ kl,left kl = true → Maps.has (mapOf m) kl = true) ∧ Aside0 (wr.heap[g]? = some (.cells ((putAll l2 (wallsL l2) (came m left)).map (Value.int .u8) ++ ts).toArray 5 (0,0))) ∧ Aside0 (wr.heap[b3]? = some (.cells #[.int .i64 a0,.int .i64 a1,.slice (some ⟨g,0,none⟩) l2.length co] 65 (0,0))) ∧ Aside0 (wr.heap[b1]? = some (.cells #[.int .i64 a0,.int .i64 a1,.slice (some ⟨sb,so,none⟩) l2.length c2] 65 (0,0))) ∧ Aside0 (wr.heap[b2]? = some (.cells #[.int .i64 0,.int .i64 0,.slice none 0 0] 65 (0,0))) ∧ Aside0 (Below w.heap.size w wr)) (fun _ wr=>wr.rangeLeft b b4)
 case atStart=>exact ⟨_,_,HRG0,⟨fun _ h=>h⟩,ROW,Y3,Y1,Y2,HB0⟩
 case round =>
  obtain ⟨left,cnt,HRG,HSUB,ROWr,Z3,Z1,Z2,HBr⟩:=hrel
  clear ROW Y3 Y1 Y2 HB0 HRG0
  go_wp2_with (at_next;refine wpList_next_ranges_ii _ rfl (.tmp 11) rfl 3 3 .i64 .i64 int_keys Tryz.underlying3 Tryz.underlying3 b b4 n (mapOf m) left cnt rfl HRG.out ?_ ?_)
  ·intro _ hl0
   obtain ⟨hgw,hg5,h1w,h2w,h3w,h15,h25,hbw⟩:=HP.out
   have ROW':=ROWr.out
   rw [came_end hl0] at ROW'
   have y0:wr.cell? ⟨b3,0,none⟩ = some (.int .i64 a0):=(blk_cell Z3.out 0).trans rfl
   have y1:wr.cell? ⟨b3,1,none⟩ = some (.int .i64 a1):=(blk_cell Z3.out 1).trans rfl
   have y2:wr.cell? ⟨b3,2,none⟩ = some (.slice (some ⟨g,0,none⟩) l2.length co):=(blk_cell Z3.out 2).trans rfl
   have c0:wr.cell? ⟨b2,0,none⟩ = some (.int .i64 0):=(blk_cell Z2.out 0).trans rfl
   have c1:wr.cell? ⟨b2,1,none⟩ = some (.int .i64 0):=(blk_cell Z2.out 1).trans rfl
   have cc2:wr.cell? ⟨b2,2,none⟩ = some (.slice none 0 0):=(blk_cell Z2.out 2).trans rfl
   have f0:=blk_frozen Z2.out 0
   have f1:=blk_frozen Z2.out 1
   have f2:=blk_frozen Z2.out 2
   have hgb2:g ≠ b2:=blk_ne ROW' Z2.out d_c
   have RR:=am ROW'
   have NN:=am hgb2
   have H2W:=am h2w
   have HGW:=am hgw
   clear ROW' hgb2 hgw hg5 h1w h2w h3w h15 h25 hbw hl0 HRG HSUB ROWr
   go_wp2
   refine bodyPost_ret (results_cell_row rfl _ _ b2 65 #[.int .i64 a0,.int .i64 a1,.slice (some ⟨g,0,none⟩) l2.length co] (0,0) _ rfl (by exact blk_put (blk_put (blk_put Z2.out 0 (.int .i64 a0) rfl) 1 (.int .i64 a1) rfl) 2 (.slice (some ⟨g,0,none⟩) l2.length co) rfl) Tryz.underlying65 rfl k_r) rfl ?_
   refine ⟨.slice (some ⟨g,0,none⟩) l2.length co,rfl,?_,((HBr.out.setCell (p:=⟨b2,0,none⟩) H2W.out _).setCell (p:=⟨b2,1,none⟩) H2W.out _).setCell (p:=⟨b2,2,none⟩) H2W.out _⟩
   have hrl:(putAll l2 (wallsL l2) m).length = l2.length:=by rw [putAll_length];simp [wallsL]
   rw [← hrl]
   refine Kd.R_of_own (enc:=Value.int .u8) (h1:=fun _=>rfl) ?_ (fun _ _=>trivial)
   refine ⟨by simp [encs],.inr ⟨g,co,_,rfl,HGW.out,blk_far (blk_far (blk_far RR.out (p:=⟨b2,0,none⟩) NN.out _) (p:=⟨b2,1,none⟩) NN.out _) (p:=⟨b2,2,none⟩) NN.out _,by rw [hrl];exact HCO.out,HCB.out,?_,?_⟩⟩
   ·have:=HTS.out
    simp [hrl];omega
   ·rw [Nat.mul_one,List.take_append_of_le_length (by simp),List.take_of_length_le (by simp)];rfl
  ·intro x c w1 cnt1 hwx hwc hlx hat hrg1 hlt1 hg1 hs1 hen
   obtain ⟨p,hp,rfl,rfl⟩:=came_entry HN.out HSUB.out hlx hat
   obtain ⟨hgw,hg5,h1w,h2w,h3w,h15,h25,hbw⟩:=HP.out
   have h34:=H34.out
   obtain ⟨q1,q2⟩:=HLT.out p hp
   have ROW1:=(hg1.block g (blk_lt ROWr.out) (by simp;omega)).trans ROWr.out
   have W3:=(hg1.block b3 (blk_lt Z3.out) (by simp;omega)).trans Z3.out
   have W1:=(hg1.block b1 (blk_lt Z1.out) (by simp;omega)).trans Z1.out
   have W2:=(hg1.block b2 (blk_lt Z2.out) (by simp;omega)).trans Z2.out
   have HB1:Below w.heap.size w w1:=HBr.out.grown hg1 HBr.out.size (fun k hk=>by cases hk;omega)
   have y2:w1.cell? ⟨b3,2,none⟩ = some (.slice (some ⟨g,0,none⟩) l2.length co):=(blk_cell W3 2).trans rfl
   have z2:w1.cell? ⟨b1,2,none⟩ = some (.slice (some ⟨sb,so,none⟩) l2.length c2):=(blk_cell W1 2).trans rfl
   have src:w1.cell? ⟨sb,so + p.1,none⟩ = some (.int .u8 (l2.getD p.1 0)):=(HB1.cell (p:=⟨sb,so + p.1,none⟩) HSB.out).trans (HSC.out p.1 _ (by rw [getD_at q1];exact List.getElem?_eq_getElem q1))
   have hpl:(putAll l2 (wallsL l2) (came m left)).length = l2.length:=by rw [putAll_length];simp [wallsL]
   have dst:w1.cell? ⟨g,p.2,none⟩ = some (.int .u8 ((putAll l2 (wallsL l2) (came m left)).getD p.2 0)):=(blk_cell ROW1 p.2).trans (cells_get _ ts p.2 (by rw [hpl];exact q2))
   have hf:=blk_frozen ROW1 p.2
   have hgb3:g ≠ b3:=by omega
   have hgb1:g ≠ b1:=blk_ne ROW1 W1 d_c
   have hgb2:g ≠ b2:=blk_ne ROW1 W2 d_c
   have hput:=came_put HN.out HS.out hp hlx l2 (wallsL l2)
   have hset:=cells_of (n:=0) (putAll l2 (wallsL l2) (came m left)) ts p.2 (by rw [hpl];exact q2) (l2.getD p.1 0)
   have k1:((p.1:Nat):Int) < (l2.length:Int):=by omega
   have k2:((p.2:Nat):Int) < (l2.length:Int):=by omega
   generalize l2.getD p.1 0 = v at src hput hset
   have HPUT:=am hput
   have HSET:=am hset
   have HHB1:=am HB1
   have HROW1:=am ROW1
   have HW3:=am W3
   have HW1:=am W1
   have HW2:=am W2
   have HRG1:=am hrg1
   have HLT1:=am hlt1
   have HNE:=am (And.intro hgb3 (And.intro hgb1 (And.intro hgb2 (And.intro hgw (show g ≠ b by omega) ))))
   have HNB4:=am (show g ≠ b4 by omega)
   clear hgw hg5 h1w h2w h3w h15 h25 hbw h34 q1 q2 ROW1 W3 W1 W2 HB1 hpl hgb3 hgb1 hgb2 hput hset hrg1 hlt1 hg1 hs1 hwx hwc hlx hat
   go_wp2
   go_still_tail 9,k_r
   change wpList _ _ _ _ _ w1.drew
   have dst':w1.drew.cell? ⟨g,p.2,none⟩ = some (.int .u8 ((putAll l2 (wallsL l2) (came m left)).getD p.2 0)):=dst
   have hf':w1.drew.frozen? ⟨g,p.2,none⟩ = false:=hf
   have DROW:Aside0 (w1.drew.heap[g]? = _):=HROW1
   have D3:Aside0 (w1.drew.heap[b3]? = _):=HW3
   have D1:Aside0 (w1.drew.heap[b1]? = _):=HW1
   have D2:Aside0 (w1.drew.heap[b2]? = _):=HW2
   have DB:Aside0 (Below w.heap.size w w1.drew):=⟨below_drew1 HHB1.out⟩
   have DRG:Aside0 (w1.drew.ranges _ _ _ _ _ _ _ _ _):=⟨ranges_block HRG1.out rfl rfl⟩
   clear dst hf HROW1 HW3 HW1 HW2 HHB1 HRG1 y2 z2 src hen
   generalize w1.drew = w2 at dst' hf' DROW D3 D1 D2 DB DRG ⊢
   go_wp2
   obtain ⟨n1,n2,n3,n4,n5⟩:=HNE.out
   have n6:=HNB4.out
   go_roundw
   case measure=>have e1:=HRG.out.left_eq;have e2:=(ranges_block (w':=w2.setCell ⟨g,p.2,none⟩ (.int .u8 v)) DRG.out (blk_far_eq w2 (p:=⟨g,p.2,none⟩) n5 _) (blk_far_eq w2 (p:=⟨g,p.2,none⟩) n6 _)).left_eq;have:=HLT1.out;rw [e1,e2];exact this
   case rel=>exact ⟨_,_,⟨ranges_block DRG.out (blk_far_eq w2 (p:=⟨g,p.2,none⟩) n5 _) (blk_far_eq w2 (p:=⟨g,p.2,none⟩) n6 _)⟩,⟨fun kl hkl=>HSUB.out kl (by rw [Bool.and_eq_true] at hkl;exact hkl.1)⟩,⟨by rw [show (Lit.int IntKind.i64 ((p.1:Nat):Int)) = litN p.1 from rfl,HPUT.out,← HSET.out];exact blk_put DROW.out p.2 _ rfl⟩,⟨blk_far D3.out (p:=⟨g,p.2,none⟩) (Ne.symm n1) _⟩,⟨blk_far D1.out (p:=⟨g,p.2,none⟩) (Ne.symm n2) _⟩,⟨blk_far D2.out (p:=⟨g,p.2,none⟩) (Ne.symm n3) _⟩,⟨DB.out.setCell (p:=⟨g,p.2,none⟩) n4 _⟩⟩
def castsI (l:List Nat):List Int:=l.map Int.ofNat
theorem castsI_length (l:List Nat):(castsI l).length = l.length:=by simp [castsI]
theorem castsI_getD (l:List Nat) (j:Nat) (h:j < l.length):(castsI l)[j]? = some ((l[j]'h:Nat):Int):=by
 unfold castsI;rw [List.getElem?_map,List.getElem?_eq_getElem h];rfl
theorem row_at {w:World} {A:Option Addr} {n:Nat} {xs:List (List Int)} (h:Kd.C (Kd.slice 3 (Kd.int .i64)) w A n xs) (j:Nat) (hj:j < n) :
  ∃ bk o A0 c0,A = some ⟨bk,o,none⟩ ∧ w.cell? ⟨bk,o + j,none⟩ = some (.slice A0 (xs.getD j []).length c0) ∧ (xs.getD j []).length ≤ c0 ∧ Kd.C (Kd.int .i64) w A0 (xs.getD j []).length (xs.getD j []):=by
 obtain ⟨ad,c,e,hcl,hK,hc0⟩:=Kd.C_get h ([]:List Int) (j:Int) o_m o_m
 rw [Int.toNat_natCast] at hK hc0
 have hc:∀ i u,c[i]? = some u → w.cell? (ad.add (j * 1 + i)) = some u:=hc0
 obtain ⟨A0,c0,rfl,l0,g0⟩:=hK
 have hq:=hc 0 _ rfl
 rw [Nat.mul_one,Nat.add_zero] at hq
 obtain ⟨ad2,c2,e2',_,hK2,hc2⟩:=Kd.C_get h ([]:List Int) 0 o_m o_m
 obtain rfl:ad = ad2:=Option.some.inj (e.symm.trans e2')
 obtain ⟨A2,cc2,rfl,_,_⟩:=hK2
 have hq0:w.cell? (ad.add (0 * 1 + 0)) = _:=hc2 0 _ rfl
 obtain ⟨bk,o,sp⟩:=ad
 have e':sp = none:=spot_of_cell hq0
 subst e'
 have e2:(⟨bk,o,none⟩:Addr).add j = ⟨bk,o + j,none⟩:=by unfold Addr.add;split <;> simp_all
 rw [e2] at hq
 exact ⟨bk,o,A0,c0,e,hq,l0,g0⟩
def partM (b:Nat → Bool) (st:List Nat) (i:Nat):List (Nat × Nat):=((st.take i).filter b).zip st
theorem partM_all (b:Nat → Bool) (st:List Nat):partM b st st.length = (st.filter b).zip st:=by unfold partM;rw [List.take_length]
theorem zip_snoc:∀ (a c:List Nat) (x:Nat),a.length < c.length → (a ++ [x]).zip c = a.zip c ++ [(x,c.getD a.length 0)]
 | [],y :: c,x,_=>rfl
 | z :: a,y :: c,x,h=>by
  rw [List.cons_append,List.zip_cons_cons,zip_snoc a c x (by simpa using h)];rfl
theorem cnt_le (b:Nat → Bool) (st:List Nat) (i:Nat):((st.take i).filter b).length ≤ i:=Nat.le_trans (List.length_filter_le _ _) (by rw [List.length_take];exact Nat.min_le_left _ _)
theorem take_filter {b:Nat → Bool} {st:List Nat} {i:Nat} (h:i < st.length):(st.take (i + 1)).filter b = if b (st[i]'h) = true then (st.take i).filter b ++ [st[i]'h] else (st.take i).filter b:=by
 rw [List.take_succ_eq_append_getElem h,List.filter_append]
 cases hb:b st[i] <;> simp [hb]
theorem partM_yes {b:Nat → Bool} {st:List Nat} {i:Nat} (h:i < st.length) (hb:b (st[i]'h) = true):partM b st (i + 1) = partM b st i ++ [(st[i]'h,st.getD ((st.take i).filter b).length 0)]:=by
 unfold partM
 rw [take_filter h,if_pos hb,zip_snoc _ _ _ (by have:=cnt_le b st i;omega)]
theorem partM_no {b:Nat → Bool} {st:List Nat} {i:Nat} (h:i < st.length) (hb:b (st[i]'h) = false):partM b st (i + 1) = partM b st i:=by
 unfold partM
 rw [take_filter h,if_neg (by rw [hb];exact Bool.false_ne_true)]
theorem mvs_take {b:Nat → Bool} {S:List (List Nat)} {j:Nat} (h:j < S.length):mvs b (S.take (j + 1)) = mvs b (S.take j) ++ partM b (S[j]'h) (S[j]'h).length:=by
 unfold mvs
 rw [List.take_succ_eq_append_getElem h,List.flatMap_append,partM_all];simp
theorem own_heap {w w':World} {b n:Nat} {D:DataW Unit} (h:w.ownsMap Tryz.prog 3 (plainElem (H:=Unit) Tryz.prog 3) b n D) (hb:w'.heap[b]? = w.heap[b]?):w'.ownsMap Tryz.prog 3 (plainElem (H:=Unit) Tryz.prog 3) b n D:=by
 obtain ⟨es,clock,h1,h2⟩:=h
 exact ⟨es,clock,hb.trans h1,h2⟩
theorem mvs_len (b:Nat → Bool) (S:List (List Nat)) (j:Nat):(mvs b (S.take j)).length ≤ S.flatten.length:=by
 have h1:(mvs b (S.take j)).length = ((S.take j).flatten.filter b).length:=by rw [← mvs_fst,List.length_map]
 have h2:S.flatten = (S.take j).flatten ++ (S.drop j).flatten:=by rw [← List.flatten_append,List.take_append_drop]
 have h3:=List.length_filter_le b (S.take j).flatten
 rw [h1,h2,List.length_append]
 omega
theorem partM_len (b:Nat → Bool) (st:List Nat) (i:Nat):(partM b st i).length ≤ i:=by
 unfold partM
 rw [List.length_zip]
 exact Nat.le_trans (Nat.min_le_left _ _) (cnt_le b st i)
theorem impl_tray_slide.calls (a0 a1 dir:Int) (A2:Option Addr) (c2:Nat) (l2:List Int) (SN:List (List Nat)) (w:World) (hr2:Kd.C (Kd.int .u8) w A2 l2.length l2) (hc2:l2.length ≤ c2)
  (hl:0 < l2.length ∧ l2.length < 65536) (hS:∀ st ∈ SN,∀ i ∈ st,i < l2.length) (hlen:SN.flatten.length < 65536) (hlen1:SN.length < 65536) (hlen2:∀ st ∈ SN,st.length < 65536)
  (hcall:∀ W,Below w.heap.size w W → Calls Tryz.prog 172 #[.agg #[.int .i64 a0,.int .i64 a1,.slice A2 l2.length c2],.int .u8 dir] W fun e w'=>∃ v,e = .returned v ∧ Kd.R (Kd.slice 3 (Kd.int .i64)) 40 w' W.heap.size (fun _=>True) v (SN.map castsI) ∧ Below W.heap.size W w') :
  Calls Tryz.prog 125 #[.agg #[.int .i64 a0,.int .i64 a1,.slice A2 l2.length c2],.int .u8 dir] w fun e w'=>∃ b,e = .returned (.map (some b)) ∧ w.heap.size ≤ b ∧ MapAt w' b (mvs (ballAt l2) SN) ∧ Below w.heap.size w w':=by
 have hball:∀ (c:Int) (W:World),Calls Tryz.prog 173 #[.int .u8 c] W fun e w'=>e = .returned (.bool (isBallC c)) ∧ w'.heap = W.heap ∧ Below W.heap.size W w':=fun c W=>by
  refine (impl_isBall.calls c (isBallC c) W (impl_isBall_is c)).mono ?_
  rintro e w' ⟨rfl,⟨nd,rfl⟩⟩
  exact ⟨rfl,rfl,pw_below_drewN (Below.refl _ _) nd⟩
 obtain ⟨sb,so,rfl,hsb,hscells⟩:=C_place hr2 hl.1
 have HC:=am hc2
 have HL:=am hl
 have HSS:=am hS
 have HLEN:=am (And.intro hlen (And.intro hlen1 hlen2))
 have HSC:=am hscells
 have HSB:=am hsb
 have HB:=am (Below.refl w.heap.size w)
 have hmm:=@run_makeMap Tryz.prog
 clear hr2 hc2 hl hS hlen hlen1 hlen2 hscells hsb
 go_enter Tryz.func125,Tryz.ntmps125
 go_wp2_with (first
  | (refine bx 2 #[.int .i64 a0,.int .i64 a1,.slice (some ⟨sb,so,none⟩) l2.length c2] 65 ?_;intro b1 hg1 w3 hbox1 hb1;have hbl:(w3.alloc (.map #[] 0)).heap[b1]? = _:=(((Below.refl _ w3).alloc (Nat.le_refl _) _).block b1 (blk_lt hbox1)).trans hbox1;have z10:(w3.alloc (.map #[] 0)).cell? ⟨b1,0,none⟩ = some (.int .i64 a0):=(blk_cell hbl 0).trans rfl;have z11:(w3.alloc (.map #[] 0)).cell? ⟨b1,1,none⟩ = some (.int .i64 a1):=(blk_cell hbl 1).trans rfl;have z12:(w3.alloc (.map #[] 0)).cell? ⟨b1,2,none⟩ = some (.slice (some ⟨sb,so,none⟩) l2.length c2):=(blk_cell hbl 2).trans rfl;have G1:=am hg1;have X1:=am hbl;have B1:=am hb1;clear hg1 hbox1 hbl hb1)
  | (go_at_call 172;obtain ⟨b2,hb2⟩:∃ b2,w3.heap.size = b2:=⟨_,rfl⟩;have hm0:MapAt (w3.alloc (.map #[] 0)) b2 []:=(by rw [← hb2];exact ⟨0,Nat.le_refl _,World.ownsMap_made _ _ _ _⟩);have hsz4:(w3.alloc (.map #[] 0)).heap.size = b2 + 1:=(by rw [← hb2];simp);have hB4:Below w.heap.size w (w3.alloc (.map #[] 0)):=B1.out.alloc B1.out.size _;obtain ⟨W4,hW4⟩:∃ W4,w3.alloc (.map #[] 0) = W4:=⟨_,rfl⟩;rw [hW4] at hm0 hsz4 hB4 X1 z10 z11 z12 ⊢;(try simp only [hb2]);have h2w:w.heap.size ≤ b2:=(by rw [← hb2];exact B1.out.size);refine (hcall _ hB4).mono ?_;rintro e w5 ⟨v,rfl,ho,hb⟩;obtain ⟨Av,cv,hv⟩:=Kd.R_slice ho;rw [List.length_map] at hv;subst hv;have ho':=Kd.R_mono (Kd.R_bound ho) (ok':=fun k=>b2 < k) (fun k hk=>by have:=hk.2.1;omega);have HO:=am ho';clear ho';have B5:=am (below_step hB4 hb);have X5:=am (blk_below X1.out hb);have M5:=am (hm0.below hb);have H2W:=am h2w;have HSZ4:=am hsz4;clear ho hb hB4 hm0 hsz4 h2w hW4 hb2 z10 z11 z12 X1 B1))
 have hb12:b1 ≠ b2:=by
  obtain ⟨n,_,es,clock,h1,_⟩:=M5.out
  intro e
  have:=X5.out
  rw [e,h1] at this
  cases this
 have rows:∀ j,(hj:j < SN.length) → ∃ bk o A0 c0,Av = some ⟨bk,o,none⟩ ∧ SN[j].length ≤ c0 ∧ ∀ W,KeepBut w5 W b2 none → W.cell? ⟨bk,o + j,none⟩ = some (.slice A0 SN[j].length c0) ∧ Kd.C (Kd.int .i64) W A0 SN[j].length (castsI SN[j]):=fun j hj=>by
  have hgd:(SN.map castsI).getD j [] = castsI SN[j]:=by
   rw [List.getD_eq_getElem?_getD,List.getElem?_map,List.getElem?_eq_getElem hj];rfl
  have get:∀ W,KeepBut w5 W b2 none → ∃ bk o A0 c0,Av = some ⟨bk,o,none⟩ ∧ W.cell? ⟨bk,o + j,none⟩ = some (.slice A0 SN[j].length c0) ∧ SN[j].length ≤ c0 ∧ Kd.C (Kd.int .i64) W A0 SN[j].length (castsI SN[j]):=fun W hk=>by
   obtain ⟨A,c,e,_,hC⟩:=Kd.R_reads (Kd.R_keep HO.out hk (fun k h=>by omega))
   injection e with e1 e2 e3
   subst e1
   obtain ⟨bk,o,A0,c0,q1,q2,q3,q4⟩:=row_at hC j (by rw [List.length_map];exact hj)
   rw [hgd,castsI_length] at q2 q3 q4
   exact ⟨bk,o,A0,c0,q1,q2,q3,q4⟩
  have k5:KeepBut w5 w5 b2 none:=⟨Nat.le_refl _,fun _ _ _ _=>rfl⟩
  obtain ⟨bk,o,A0,c0,q1,q2,q3,q4⟩:=get w5 k5
  refine ⟨bk,o,A0,c0,q1,q3,fun W hk=>?_⟩
  obtain ⟨bk',o',A0',c0',r1,r2,r3,r4⟩:=get W hk
  rw [q1] at r1
  injection r1 with r1
  injection r1 with r1 r1'
  subst r1 r1'
  have hne:bk ≠ b2:=by
   have:=HO.out.1 bk (by rw [q1];rfl)
   omega
  have he:W.cell? ⟨bk,o + j,none⟩ = w5.cell? ⟨bk,o + j,none⟩:=World.cell?_of_block (hk.2 bk (World.block_lt_of_cell? w5 _ q2) hne (by simp))
  rw [he,q2] at r2
  injection r2 with r2
  injection r2 with r2 _ r2'
  subst r2 r2'
  exact ⟨by rw [he];exact q2,r4⟩
 have ROWS:=am rows
 have B12:=am hb12
 have K5:=am (show KeepBut w5 w5 b2 none from ⟨Nat.le_refl _,fun _ _ _ _=>rfl⟩)
 clear rows hb12 HO hcall HSZ4 G1
 go_wp2
 go_loopw [16] (fun v16 wr=>∃ j:Nat,j ≤ SN.length ∧ v16 = .int .i64 j ∧ Aside0 (MapAt wr b2 (mvs (ballAt l2) (SN.take j))) ∧ Aside0 (KeepBut w5 wr b2 none) ∧ Aside0 (Below w.heap.size w wr)) (fun v16 _=>SN.length - (intOf v16).toNat)
 case atStart=>exact ⟨0,Nat.zero_le _,rfl,M5,K5,B5⟩
 case round =>
  obtain ⟨j,hj,rfl,Mr,Kr,Br⟩:=hrel
  by_cases hlt:j < SN.length
  rotate_left
  ·have hge:¬ (j:Int) < (SN.length:Int):=by omega
   have M':=Mr.out
   rw [List.take_of_length_le o_m] at M'
   go_wp2
   go_ret
   exact ⟨b2,rfl,H2W.out,M',Br.out⟩
  obtain ⟨bk,o,A0,c0,rfl,hc0,hat⟩:=ROWS.out j hlt
  have hcell:=(hat wr Kr.out).1
  have hltI:(j:Int) < (SN.length:Int):=by omega
  have hstl:=HLEN.out.2.2 SN[j] (List.getElem_mem hlt)
  have hmv:=mvs_take (b:=ballAt l2) hlt
  have hin:=HSS.out SN[j] (List.getElem_mem hlt)
  generalize hst:SN[j] = st at *
  have HMV:=am hmv
  have HAT:=am hat
  have HIN:=am hin
  have HSTL:=am hstl
  have HJ:=am hlt
  clear hmv hat hin hstl hst hj hlt
  go_wp2
  go_loopw [8,22] (fun v8 v22 wq=>∃ i:Nat,i ≤ st.length ∧ v22 = .int .i64 i ∧ v8 = .int .i64 ((((st.take i).filter (ballAt l2)).length:Nat):Int) ∧ Aside0 (MapAt wq b2 (mvs (ballAt l2) (SN.take j) ++ partM (ballAt l2) st i)) ∧ Aside0 (KeepBut w5 wq b2 none) ∧ Aside0 (Below w.heap.size w wq)) (fun _ v22 _=>st.length - (intOf v22).toNat)
  case atStart=>exact ⟨0,Nat.zero_le _,rfl,rfl,⟨by unfold partM;simp;exact Mr.out⟩,Kr,Br⟩
  case round =>
   obtain ⟨i,hi,rfl,rfl,Mq,Kq,Bq⟩:=hrel
   by_cases hlt2:i < st.length
   rotate_left
   ·have hge:¬ (i:Int) < (st.length:Int):=by omega
    obtain rfl:i = st.length:=by omega
    have M2:Aside0 (MapAt wr b2 (mvs (ballAt l2) (SN.take (j + 1)))):=⟨by rw [HMV.out];exact Mq.out⟩
    have hw:IntKind.i64.wrap ((j:Int) + 1) = ((j + 1:Nat):Int):=by rw [IntKind.wrap_i64];have:=HLEN.out.2.1;have:=HJ.out;omega
    go_wp2
    go_roundw
    case rel=>exact ⟨j + 1,by have:=HJ.out;omega,by first | rfl | simp,M2,Kq,Bq⟩
    case measure=>have:=HJ.out;simp [intOf];omega
   obtain ⟨_,hCq⟩:=HAT.out wr Kq.out
   obtain ⟨bo,oo,hA0,hbo,hcs⟩:=C_place (by rw [← castsI_length st] at hCq;exact hCq) (by rw [castsI_length];omega)
   have x1:wr.cell? ⟨bo,oo + i,none⟩ = some (.int .i64 ((st[i]'hlt2:Nat):Int)):=hcs i _ (castsI_getD st i hlt2)
   have hcnt:=cnt_le (ballAt l2) st i
   have x2:wr.cell? ⟨bo,oo + ((st.take i).filter (ballAt l2)).length,none⟩ = some (.int .i64 ((st.getD ((st.take i).filter (ballAt l2)).length 0:Nat):Int)):=hcs _ _ (by rw [castsI_getD st _ o_m];rw [List.getD_eq_getElem?_getD,List.getElem?_eq_getElem o_m];rfl)
   have hk:=HIN.out _ (List.getElem_mem hlt2)
   have hYES:=partM_yes (b:=ballAt l2) hlt2
   have hNO:=partM_no (b:=ballAt l2) hlt2
   have htf:=take_filter (b:=ballAt l2) hlt2
   have Xr:wr.heap[b1]? = _:=(Kq.out.2 b1 (blk_lt X5.out) B12.out (by simp)).trans X5.out
   have z2:wr.cell? ⟨b1,2,none⟩ = some (.slice (some ⟨sb,so,none⟩) l2.length c2):=(blk_cell Xr 2).trans rfl
   have hmlen:(mvs (ballAt l2) (SN.take j) ++ partM (ballAt l2) st i).length < 200000:=by
    have h1:=mvs_len (ballAt l2) SN j
    have h2:=partM_len (ballAt l2) st i
    have h3:=HLEN.out.1
    have h4:=HSTL.out
    rw [List.length_append]
    omega
   generalize hcn:((st.take i).filter (ballAt l2)).length = cnt at *
   generalize hki:st[i]'hlt2 = k at *
   generalize hto:st.getD cnt 0 = tq at *
   have src:wr.cell? ⟨sb,so + k,none⟩ = some (.int .u8 (l2.getD k 0)):=(Bq.out.cell (p:=⟨sb,so + k,none⟩) HSB.out).trans (HSC.out k _ (by rw [getD_at hk];exact List.getElem?_eq_getElem hk))
   have hbb:isBallC (l2.getD k 0) = ballAt l2 k:=rfl
   generalize l2.getD k 0 = c at *
   have hltI2:(i:Int) < (st.length:Int):=by omega
   have hkI:(k:Int) < (l2.length:Int):=by omega
   have hcI:(cnt:Int) < (st.length:Int):=by omega
   subst hA0
   have hw1:IntKind.i64.wrap ((i:Int) + 1) = ((i + 1:Nat):Int):=by rw [IntKind.wrap_i64];have:=HSTL.out;omega
   have hw2:IntKind.i64.wrap ((cnt:Int) + 1) = ((cnt + 1:Nat):Int):=by rw [IntKind.wrap_i64];have:=HSTL.out;omega
   have wfk:(Lit.int .i64 ((k:Nat):Int)).wf = true:=WalkArith.wf_i64 (by have:=HL.out;omega)
   have wft:(Lit.int .i64 ((tq:Nat):Int)).wf = true:=by
    have h1:tq ∈ st:=by
     rw [← hto,List.getD_eq_getElem?_getD,List.getElem?_eq_getElem o_m];exact List.getElem_mem _
    have:=HIN.out tq h1
    have:=HL.out
    exact WalkArith.wf_i64 o_m
   obtain ⟨n,hnm,hown⟩:=Mq.out
   have hnx:n < maxLen:=by unfold maxLen;omega
   have HOWN:=am hown
   have HNM:=am (And.intro hnm hnx)
   have WF:=am (And.intro wfk wft)
   have HII:=am (And.intro hi hlt2)
   have HTF:=am htf
   have HYES:=am hYES
   have HNO:=am hNO
   have HBB:=am hbb
   have HBO:=am hbo
   have HCN:=am hcn
   clear hi hlt2 hnm hnx hown wfk wft htf hYES hNO hcs hCq hcnt hk hmlen hcn hki hto Xr hbo
   cases hbt:ballAt l2 k with
   | true =>
    rw [hbt] at hbb
    go_wp2_with (first
     | (go_at_call 173;refine (hball c _).mono ?_;rw [hbb];rintro e w6 ⟨rfl,hh,hb6⟩;have y2:w6.cell? ⟨bo,oo + cnt,none⟩ = some (.int .i64 ((tq:Nat):Int)):=(World.cell?_of_block (congrArg (fun h=>h[bo]?) hh)).trans x2;have HH:=am hh;have B6:=am (below_step Bq.out hb6);clear hh hb6 x1 x2 z2 src)
     | (at_mapUpdate;refine wpList_mapUpdate_own _ rfl _ _ _ 147 rfl 3 3 int_keys Tryz.underlying147 _ b2 n _ rfl (own_heap HOWN.out (congrArg (fun h=>h[b2]?) HH.out)) HNM.out.2 _ _ _ rfl rfl (keyOf_int_mk Tryz.underlying3 WF.out.1) _ [] (plainElem_int Tryz.underlying3 WF.out.2) ?_;intro w7 hown7 hgrow7;have HO7:=am hown7;have HG7:=am hgrow7;clear hown7 hgrow7))
    go_roundw
    case rel=>exact ⟨i + 1,by have:=HII.out;omega,by first | rfl | simp,by rw [HTF.out,if_pos hbt,List.length_append,HCN.out];first | rfl | simp,⟨by rw [HYES.out hbt,← List.append_assoc];exact ⟨n + 1,by have:=HNM.out.1;rw [List.length_append,List.length_singleton];omega,by rw [mapOf_snoc];exact HO7.out⟩⟩,⟨Nat.le_trans Kq.out.1 (by rw [← HH.out];exact HG7.out.size),fun q h1 h2 h3=>(HG7.out.block q (by rw [HH.out];exact Nat.lt_of_lt_of_le h1 Kq.out.1) (by simpa using h2)).trans ((congrArg (fun h=>h[q]?) HH.out).trans (Kq.out.2 q h1 h2 h3))⟩,⟨B6.out.grown HG7.out B6.out.size (fun k hk=>by cases hk;exact H2W.out)⟩⟩
    case measure=>have:=HII.out;simp [intOf];omega
   | false =>
    rw [hbt] at hbb
    go_wp2_with (first
     | (go_at_call 173;refine (hball c _).mono ?_;rw [hbb];rintro e w6 ⟨rfl,hh,hb6⟩;have HH:=am hh;have B6:=am (below_step Bq.out hb6);clear hh hb6 x1 x2 z2 src))
    go_roundw
    case rel=>exact ⟨i + 1,by have:=HII.out;omega,by first | rfl | simp,by rw [HTF.out,if_neg (by rw [hbt];exact Bool.false_ne_true),HCN.out],⟨by rw [HNO.out hbt];exact Mq.out.block (congrArg (fun h=>h[b2]?) HH.out)⟩,⟨by rw [HH.out];exact Kq.out.1,fun q h1 h2 h3=>(congrArg (fun h=>h[q]?) HH.out).trans (Kq.out.2 q h1 h2 h3)⟩,B6⟩
    case measure=>have:=HII.out;simp [intOf];omega
end Go.Proofs.YtldhkbiomingbaaGreatDoor

namespace Go.Proofs.YtldhkbiomingbaaGreatDoor
open Go.RowKit Go.YW.PrintWords Go.YW.PrintMore
theorem seeAllQ_fst {w h i:Nat}:∀ (ds:List Nat) (s:RS) (Q:List Int) (next:List Nat),(seeAllQ w h i ds s Q next).map (fun q=>(q.1,q.2.2)) = seeAll w h i ds s next
 | [],s,Q,next=>rfl
 | d :: ds,s,Q,next=>by
  unfold seeAllQ seeAll seeQ
  cases hs:seeD w h i d s with
  | none=>rfl
  | some q=>exact seeAllQ_fst ds q.1 _ (next ++ [q.2])
theorem bfsQ_fst {w h:Nat}:∀ (k i:Nat) (s:RS) (Q:List Int),(bfsQ w h k i s Q).map Prod.fst = bfsD w h k i s
 | 0,_,_,_=>rfl
 | k + 1,i,s,Q=>by
  unfold bfsQ bfsD
  split
  ·rw [← seeAllQ_fst [0,1,2,3] s Q []]
   cases hs:seeAllQ w h i [0,1,2,3] s Q [] with
   | none=>rfl
   | some q=>exact bfsQ_fst k (i + 1) _ _
  ·rfl
def nodeF (tx:List Int → ByteArray) (w h:Nat) (s:RS) (Q:List Int) (P:List Nat) (i:Nat):Node :=
 { w:=w,h:=h,grid:=s.T.getD i [],text:=tx (s.T.getD i []),far:=(s.F.getD i 0:Nat),words:=Q.getD i 0,before:=if i = 0 then -1 else ((s.B.getD i (0,0)).1:Nat),dir:=((s.B.getD i (0,0)).2:Nat),next:=castsI (if i < s.N.length then s.N.getD i [] else if i = s.N.length then P else []) }
def nodesL (tx:List Int → ByteArray) (w h:Nat) (s:RS) (Q:List Int) (P:List Nat):List Node:=(List.range s.T.length).map (nodeF tx w h s Q P)
section
variable {tx:List Int → ByteArray} {w h:Nat} {s:RS} {Q:List Int} {P:List Nat}
theorem nodesL_len:(nodesL tx w h s Q P).length = s.T.length:=by unfold nodesL;simp
theorem nodesL_get {i:Nat} (hi:i < (nodesL tx w h s Q P).length):(nodesL tx w h s Q P)[i] = nodeF tx w h s Q P i  := by
 show ((List.range s.T.length).map (nodeF tx w h s Q P))[i]'(by simpa [nodesL] using hi) = _
 rw [List.getElem_map,List.getElem_range]
theorem nodesL_push {c:List Int} {f k d:Nat} {u:List Nat} (lF:s.F.length = s.T.length) (lB:s.B.length = s.T.length) (lQ:Q.length = s.T.length) (hk:s.N.length < s.T.length) (h0:0 < s.T.length) :
  nodesL tx w h { s with T:=s.T ++ [c],F:=s.F ++ [f],W:=s.W ++ [u],B:=s.B ++ [(k,d)] } (Q ++ [0]) P = nodesL tx w h s Q P ++ [{ w:=w,h:=h,grid:=c,text:=tx c,far:=(f:Nat),words:=0,before:=(k:Nat),dir:=(d:Nat),next:=[] }]:=by
 unfold nodesL
 rw [show (s.T ++ [c]).length = s.T.length + 1 by simp,List.range_succ,List.map_append]
 congr 1
 ·apply List.map_congr_left
  intro i hi
  have hi':=List.mem_range.1 hi
  unfold nodeF
  (try simp only)
  rw [getD_app hi',getD_app o_m,getD_app o_m,getD_app o_m]
 ·show [nodeF _ _ _ _ _ _ _] = _
  unfold nodeF
  (try simp only)
  rw [getD_new,show s.T.length = s.F.length from lF.symm,getD_new,lF,show s.T.length = s.B.length from lB.symm,getD_new,lB,show s.T.length = Q.length from lQ.symm,getD_new,lQ,if_neg o_m,if_neg o_m,if_neg o_m]
  rfl
theorem nodesL_words {a:Nat} {x:Int} (ha:a < (nodesL tx w h s Q P).length) (lQ:Q.length = s.T.length):nodesL tx w h s (Q.set a x) P = (nodesL tx w h s Q P).set a { (nodesL tx w h s Q P)[a] with words:=x }:=by
 have hal:a < s.T.length:=by rw [nodesL_len] at ha;exact ha
 apply List.ext_getElem (by simp [nodesL_len])
 intro i h1 h2
 rw [nodesL_get,List.getElem_set]
 split
 ·rename_i e
  subst e
  rw [nodesL_get]
  unfold nodeF
  (try simp only)
  rw [show (Q.set a x).getD a 0 = x from by rw [getD_lt (by rw [List.length_set];omega),List.getElem_set_self]]
 ·rename_i e
  rw [nodesL_get]
  unfold nodeF
  (try simp only)
  rw [show (Q.set a x).getD i 0 = Q.getD i 0 from by rw [List.getD_eq_getElem?_getD,List.getD_eq_getElem?_getD,List.getElem?_set_ne e]]
theorem nodesL_way {a:Nat} (hk:s.N.length < (nodesL tx w h s Q P).length):nodesL tx w h s Q (P ++ [a]) = (nodesL tx w h s Q P).set s.N.length { (nodesL tx w h s Q P)[s.N.length] with next:=(nodesL tx w h s Q P)[s.N.length].next ++ [((a:Nat):Int)] }:=by
 apply List.ext_getElem (by simp [nodesL_len])
 intro i h1 h2
 rw [nodesL_get,List.getElem_set]
 split
 ·rename_i e
  subst e
  rw [nodesL_get]
  unfold nodeF
  (try simp only)
  simp only [Nat.lt_irrefl,if_false,if_true,castsI,List.map_append]
  rfl
 ·rename_i e
  rw [nodesL_get]
  unfold nodeF
  (try simp only)
  rw [show ∀ X:List Nat,(if i = s.N.length then X else []) = [] from fun X=>if_neg (fun q=>e q.symm),show ∀ X:List Nat,(if i = s.N.length then X else []) = [] from fun X=>if_neg (fun q=>e q.symm)]
theorem nodesL_row:nodesL tx w h { s with N:=s.N ++ [P] } Q [] = nodesL tx w h s Q P:=by
 unfold nodesL
 apply List.map_congr_left
 intro i hi
 unfold nodeF
 (try simp only)
 rw [List.length_append,List.length_singleton]
 congr 2
 by_cases e1:i < s.N.length
 ·rw [if_pos o_m,if_pos e1,getD_app e1]
 by_cases e2:i = s.N.length
 ·rw [if_pos o_m,if_neg e1,if_pos e2,e2,getD_new]
 rw [if_neg o_m,if_neg e1,if_neg e2]
 split <;> rfl
end
end Go.Proofs.YtldhkbiomingbaaGreatDoor

namespace Go.Proofs.YtldhkbiomingbaaGreatDoor.F
open Go.Proofs.YtldhkbiomingbaaGreatDoor
open Go.RowKit Go.YW.PrintWords Go.YW.PrintLast Go.YW.PrintMore
attribute [local go_sem] max2_int min2_int max_two min_two max_three min_three max_four min_four
def spec_tyIs.f (a0:Int):Option (Bool):=if a0 = 35 then (some true) else (if a0 = 46 then (some true) else ((spec_tyBall.f a0).bind fun t101=>(some t101)))
theorem spec_tyIs.calls (a0:Int) (r:Bool) (w:World) (h:spec_tyIs.f a0 = some r) :
  Calls Tryz.prog 97 #[.int .u8 a0] w fun e w'=>e = .returned (.bool r) ∧ Drawn0 w w':=by
 have H:(if a0 = 35 then (some true) else (if a0 = 46 then (some true) else ((spec_tyBall.f a0).bind fun t101=>(some t101)))) = some r:=h
 clear h
 by_cases c2:a0 = 35
 ·rw [if_pos c2] at H
  have c2b0:=beq_iff_eq.mpr c2
  have c2b1:=bne_eq_false_iff_eq.mpr c2
  clear c2
  obtain rfl:=Option.some.inj H
  go_enter Tryz.func97,Tryz.ntmps97
  go_wp2
  go_ret
  exact ⟨aq7,aq20⟩
 rw [if_neg c2] at H
 have c2b0:=beq_eq_false_iff_ne.mpr c2
 have c2b1:=bne_iff_ne.mpr c2
 by_cases c3:a0 = 46
 rotate_left
 ·rw [if_neg c3] at H
  have c3b0:=beq_eq_false_iff_ne.mpr c3
  have c3b1:=bne_iff_ne.mpr c3
  obtain ⟨t101,A4,H⟩:=bn H
  obtain rfl:=Option.some.inj H
  go_enter Tryz.func97,Tryz.ntmps97
  go_wp2_with (first | (go_at_call 116;(with_reducible refine (spec_tyBall.calls a0 t101 _ A4.out).mono ?_);rintro e w' ⟨rfl,⟨nd,rfl⟩⟩))
  go_ret
  exact ⟨aq7,aq20⟩
 rw [if_pos c3] at H
 have c3b0:=beq_iff_eq.mpr c3
 have c3b1:=bne_eq_false_iff_eq.mpr c3
 clear c3
 obtain rfl:=Option.some.inj H
 go_enter Tryz.func97,Tryz.ntmps97
 go_wp2
 go_ret
 exact ⟨aq7,aq20⟩
mutual
def spec_tyRead.l0:Nat → ByteArray → Int → Int → Int → Int → List Int → Option (Int × Int × List Int × Bool)
 | 0,_,_,_,_,_,_=>none
 | k + 1,x0,x5,x6,x103000,x103001,x103002=>if x6 ≤ (x0.size:Int) then (if x6 < (x0.size:Int) then (if 0 ≤ x6 then (spec_tyRead.j1 k x0 x5 x6 ((bt x0 x6) != 47) x103000 x103001 x103002) else (none)) else (spec_tyRead.j1 k x0 x5 x6 false x103000 x103001 x103002)) else (if x103000 > 7 then (spec_tyRead.j2 k true x103000 x103001 x103002) else (if x103001 > 7 then (spec_tyRead.j2 k true x103000 x103001 x103002) else (spec_tyRead.j2 k (decide ((x103002.length:Int) > 36)) x103000 x103001 x103002)))
def spec_tyRead.j1:Nat → ByteArray → Int → Int → Bool → Int → Int → List Int → Option (Int × Int × List Int × Bool)
 | 0,_,_,_,_,_,_,_=>none
 | k + 1,x0,x5,x6,x31,x103000,x103001,x103002=>if x31 = true then (if 0 ≤ x6 then (if x6 < (x0.size:Int) then ((spec_tyIs.f (bt x0 x6)).bind fun t103=>(if t103 = true then (if x103002.length < 140737488355328 then (spec_tyRead.l0 k x0 (wrap64 (x5 + 1)) (wrap64 (x6 + 1)) x103000 x103001 (x103002 ++ [bt x0 x6])) else (none)) else (some (0,0,([]:List Int),false)))) else (none)) else (none)) else (if x103001 > 0 then (if x5 = x103000 then (if x5 = 0 then (some (0,0,([]:List Int),false)) else (spec_tyRead.l0 k x0 0 (wrap64 (x6 + 1)) x5 (wrap64 (x103001 + 1)) x103002)) else (some (0,0,([]:List Int),false))) else (if x5 = 0 then (some (0,0,([]:List Int),false)) else (spec_tyRead.l0 k x0 0 (wrap64 (x6 + 1)) x5 (wrap64 (x103001 + 1)) x103002)))
def spec_tyRead.j2:Nat → Bool → Int → Int → List Int → Option (Int × Int × List Int × Bool)
 | 0,_,_,_,_=>none
 | k + 1,x81,x103000,x103001,x103002=>if x81 = true then (some (0,0,([]:List Int),false)) else (spec_tyRead.l1 k x103002 (x103002.length:Int) 0 x103000 x103001 x103002)
def spec_tyRead.l1:Nat → List Int → Int → Int → Int → Int → List Int → Option (Int × Int × List Int × Bool)
 | 0,_,_,_,_,_,_=>none
 | k + 1,x84,x85,x86,x103000,x103001,x103002=>if x86 < x85 then (if 0 ≤ x86 then (if x86 < (x84.length:Int) then (if x86 ≤ (x103002.length:Int) then ((some (x103002.take (x86:Int).toNat:List Int)).bind fun y108=>(spec_tyRead.l2 k (rd x84 x86) x84 x85 x86 y108 (y108.length:Int) 0 x103000 x103001 x103002)) else (none)) else (none)) else (none)) else (some (x103000,x103001,x103002,true))
def spec_tyRead.l2:Nat → Int → List Int → Int → Int → List Int → Int → Int → Int → Int → List Int → Option (Int × Int × List Int × Bool)
 | 0,_,_,_,_,_,_,_,_,_,_=>none
 | k + 1,x8,x84,x85,x86,x94,x95,x96,x103000,x103001,x103002=>if x96 < x95 then (if 0 ≤ x96 then (if x96 < (x94.length:Int) then (if x8 = (rd x94 x96) then (if x8 ≥ 97 then (if x8 ≤ 102 then (some (0,0,([]:List Int),false)) else (spec_tyRead.l2 k x8 x84 x85 x86 x94 x95 (wrap64 (x96 + 1)) x103000 x103001 x103002)) else (spec_tyRead.l2 k x8 x84 x85 x86 x94 x95 (wrap64 (x96 + 1)) x103000 x103001 x103002)) else (spec_tyRead.l2 k x8 x84 x85 x86 x94 x95 (wrap64 (x96 + 1)) x103000 x103001 x103002)) else (none)) else (none)) else (spec_tyRead.l1 k x84 x85 (wrap64 (x86 + 1)) x103000 x103001 x103002)
end
def spec_tyRead.f (k:Nat) (a0:ByteArray):Option (Int × Int × List Int × Bool):=if (a0.size:Int) > 42 then (some (0,0,([]:List Int),false)) else (spec_tyRead.l0 k a0 0 0 0 0 ([]:List Int))
theorem spec_tyRead.mono_l:∀ k,(∀ y0 y1 y2 y3 y4 y5,LeO (spec_tyRead.l0 k y0 y1 y2 y3 y4 y5) (spec_tyRead.l0 (k + 1) y0 y1 y2 y3 y4 y5)) ∧ (∀ y0 y1 y2 y3 y4 y5 y6,LeO (spec_tyRead.j1 k y0 y1 y2 y3 y4 y5 y6) (spec_tyRead.j1 (k + 1) y0 y1 y2 y3 y4 y5 y6)) ∧ (∀ y0 y1 y2 y3,LeO (spec_tyRead.j2 k y0 y1 y2 y3) (spec_tyRead.j2 (k + 1) y0 y1 y2 y3)) ∧ (∀ y0 y1 y2 y3 y4 y5,LeO (spec_tyRead.l1 k y0 y1 y2 y3 y4 y5) (spec_tyRead.l1 (k + 1) y0 y1 y2 y3 y4 y5)) ∧ (∀ y0 y1 y2 y3 y4 y5 y6 y7 y8 y9,LeO (spec_tyRead.l2 k y0 y1 y2 y3 y4 y5 y6 y7 y8 y9) (spec_tyRead.l2 (k + 1) y0 y1 y2 y3 y4 y5 y6 y7 y8 y9))
 | 0=>⟨fun _ _ _ _ _ _ r h=>by simp [spec_tyRead.l0] at h,fun _ _ _ _ _ _ _ r h=>by simp [spec_tyRead.j1] at h,fun _ _ _ _ r h=>by simp [spec_tyRead.j2] at h,fun _ _ _ _ _ _ r h=>by simp [spec_tyRead.l1] at h,fun _ _ _ _ _ _ _ _ _ _ r h=>by simp [spec_tyRead.l2] at h⟩
 | k + 1=>by
  obtain ⟨ih0,ih1,ih2,ih3,ih4⟩:=spec_tyRead.mono_l k
  refine ⟨?_,?_,?_,?_,?_⟩
  ·intro y0 y1 y2 y3 y4 y5
   unfold spec_tyRead.l0
   exact mo
  ·intro y0 y1 y2 y3 y4 y5 y6
   unfold spec_tyRead.j1
   exact mo
  ·intro y0 y1 y2 y3
   unfold spec_tyRead.j2
   exact mo
  ·intro y0 y1 y2 y3 y4 y5
   unfold spec_tyRead.l1
   exact mo
  ·intro y0 y1 y2 y3 y4 y5 y6 y7 y8 y9
   unfold spec_tyRead.l2
   exact mo
def spec_tyRead.T11:Bool × List (List Nat × List Nat):=(true,[([],[]),([0],[0]),([],[]),([],[]),([2,3],[2,3]),([4],[4]),([1,5],[1,5]),([0,1,2,3,4,5,6],[]),([7,6,6,0,1,2,3,4,5,6],[6,7])])
def spec_tyRead.B11:List Nat:=[0,1,0,0,12,28,63,127,255]
theorem spec_tyRead.tab11:rtab .any (opsOf Tryz.f63 11) = spec_tyRead.T11:=by kernel_rfl
theorem spec_tyRead.bits11:waitsOk spec_tyRead.T11.2 spec_tyRead.B11 = true:=by kernel_rfl
theorem spec_tyRead.calls (k:Nat) (a0:ByteArray) (r1:Int) (r2:Int) (r3:List Int) (r4:Bool) (w:World) (h:spec_tyRead.f k a0 = some (r1,r2,r3,r4)) :
  Calls Tryz.prog 63 #[.string a0] w fun e w'=>∃ v2_:Value,e = .returned (.tuple #[.agg #[.int .i64 r1,.int .i64 r2,v2_],.bool r4]) ∧ Kd.R (Kd.int .u8) 5 w' w.heap.size (fun _=>True) v2_ r3 ∧ Below w.heap.size w w':=by
 have hu75:=Tryz.underlying75
 have HB:=am (Below.refl w.heap.size w)
 have H:(if (a0.size:Int) > 42 then (some (0,0,([]:List Int),false)) else (spec_tyRead.l0 k a0 0 0 0 0 ([]:List Int))) = some (r1,r2,r3,r4):=h
 clear h
 by_cases c2:(a0.size:Int) > 42
 ·rw [if_pos c2] at H
  have c2b0:=decide_eq_true c2
  have c2b1:decide (42 < a0.size) = true:=decide_eq_true o_m
  clear c2
  simp only [Option.some.injEq,Prod.mk.injEq] at H
  obtain ⟨rfl,rfl,rfl,rfl⟩:=H
  go_enter Tryz.func63,Tryz.ntmps63
  go_wp2_with (first | ((with_reducible refine gate_dst (N:=2) rfl ?_);(try (refine gate_guard (by rfl) ?_;dsimp only));refine box_event ?hg (N:=2) ?hd (cs:=#[.int .i64 0,.int .i64 0,.slice none 0 0]) (t:=75) ?hr ?_;(case hd=>rfl);(case hg=>rfl);(case hr=>exact aq13);intro gb101 hg w3 hbox hb;have BK101:=am (hbox);have GW101:=am ((by rw [hg];exact (below_size aq2):w.heap.size ≤ gb101));have GE101:=GW101;replace HB:=am (below_step aq2 hb);clear hb hbox hg) | ((with_reducible refine gate_dst (N:=4) rfl ?_);(try (refine gate_guard (by rfl) ?_;dsimp only));refine box_event ?hg (N:=4) ?hd (cs:=#[.int .i64 0,.int .i64 0,.slice none 0 0]) (t:=75) ?hr ?_;(case hd=>rfl);(case hg=>rfl);(case hr=>exact aq13);intro gb102 hg w4 hbox hb;have BK102:=am (hbox);have GW102:=am ((by rw [hg];exact (below_size aq0):w.heap.size ≤ gb102));have GE102:=GW102;replace HB:=am (below_step aq0 hb);have NB101_102:=am ((by rw [hg];exact Nat.ne_of_lt (blk_lt (g:=gb101) (o:=.cells #[.int .i64 0,.int .i64 0,.slice none 0 0] 75 (0,0)) aq1):gb101 ≠ gb102));have NB102_101:=am ((by rw [hg];exact Nat.ne_of_gt (blk_lt (g:=gb101) (o:=.cells #[.int .i64 0,.int .i64 0,.slice none 0 0] 75 (0,0)) aq1):gb102 ≠ gb101));replace BK101:=am (bb BK101 hb);clear hb hbox hg;have hnb5:=NB102_101.out;have hnc5:=NB101_102.out;obtain ⟨hcz6_0,hcz6_1,hcz6_2,hfz6_0,hfz6_1,hfz6_2⟩:=blk3_ BK102.out;obtain ⟨hcz7_0,hcz7_1,hcz7_2,hfz7_0,hfz7_1,hfz7_2⟩:=blk3_ BK101.out))
  refine bodyPost_ret (results_ct rfl _ _ gb101 75 #[.int .i64 0,.int .i64 0,.slice none 0 0] (0,0) _ rfl (by (with_reducible repeat (first | refine blk_drewN ?_ _ | refine blk_drew ?_ | refine blk_alloc ?_ _));refine blk_put (cs:=#[.int .i64 0,.int .i64 0,.slice none 0 0]) ?_ 2 _ rfl;(with_reducible repeat (first | refine blk_drewN ?_ _ | refine blk_drew ?_ | refine blk_alloc ?_ _));refine blk_put (cs:=#[.int .i64 0,.int .i64 0,.slice none 0 0]) ?_ 1 _ rfl;(with_reducible repeat (first | refine blk_drewN ?_ _ | refine blk_drew ?_ | refine blk_alloc ?_ _));refine blk_put (cs:=#[.int .i64 0,.int .i64 0,.slice none 0 0]) ?_ 0 _ rfl;(with_reducible repeat (first | refine blk_drewN ?_ _ | refine blk_drew ?_ | refine blk_alloc ?_ _));refine blk_far ?_ NB101_102.out _;(with_reducible repeat (first | refine blk_drewN ?_ _ | refine blk_drew ?_ | refine blk_alloc ?_ _));refine blk_far ?_ NB101_102.out _;(with_reducible repeat (first | refine blk_drewN ?_ _ | refine blk_drew ?_ | refine blk_alloc ?_ _));refine blk_far ?_ NB101_102.out _;(with_reducible repeat (first | refine blk_drewN ?_ _ | refine blk_drew ?_ | refine blk_alloc ?_ _));exact BK101.out) Tryz.underlying75 rfl k_r) rfl ?_
  exact ⟨_,aq8,aq23,aq3⟩
 rw [if_neg c2] at H
 have c2b0:=decide_eq_false c2
 have c2b1:decide (42 < a0.size) = false:=decide_eq_false o_m
 clear c2
 have H':=am H
 clear H
 go_enter Tryz.func63,Tryz.ntmps63
 go_wp2_with (first | ((with_reducible refine gate_dst (N:=2) rfl ?_);(try (refine gate_guard (by rfl) ?_;dsimp only));refine box_event ?hg (N:=2) ?hd (cs:=#[.int .i64 0,.int .i64 0,.slice none 0 0]) (t:=75) ?hr ?_;(case hd=>rfl);(case hg=>rfl);(case hr=>exact aq13);intro gb101 hg w8 hbox hb;have BK101:=am (hbox);have GW101:=am ((by rw [hg];exact (below_size aq2):w.heap.size ≤ gb101));have GE101:=GW101;replace HB:=am (below_step aq2 hb);clear hb hbox hg) | ((with_reducible refine gate_dst (N:=4) rfl ?_);(try (refine gate_guard (by rfl) ?_;dsimp only));refine box_event ?hg (N:=4) ?hd (cs:=#[.int .i64 0,.int .i64 0,.slice none 0 0]) (t:=75) ?hr ?_;(case hd=>rfl);(case hg=>rfl);(case hr=>exact aq13);intro gb102 hg w9 hbox hb;have BK102:=am (hbox);have GW102:=am ((by rw [hg];exact (below_size aq0):w.heap.size ≤ gb102));have GE102:=GW102;replace HB:=am (below_step aq0 hb);have NB101_102:=am ((by rw [hg];exact Nat.ne_of_lt (blk_lt (g:=gb101) (o:=.cells #[.int .i64 0,.int .i64 0,.slice none 0 0] 75 (0,0)) aq1):gb101 ≠ gb102));have NB102_101:=am ((by rw [hg];exact Nat.ne_of_gt (blk_lt (g:=gb101) (o:=.cells #[.int .i64 0,.int .i64 0,.slice none 0 0] 75 (0,0)) aq1):gb102 ≠ gb101));replace BK101:=am (bb BK101 hb);clear hb hbox hg;have hnb10:=NB102_101.out;have hnc10:=NB101_102.out;obtain ⟨hcz11_0,hcz11_1,hcz11_2,hfz11_0,hfz11_1,hfz11_2⟩:=blk3_ BK102.out))
 go_loopg [5,6] k (fun kq v5 v6 w'=>∃ (x5_1:Int) (x6_1:Int) (x102000_1:Int) (x102001_1:Int) (x103000_1:Int) (x103001_1:Int) (x103002_1:List Int) (u103002:Value),v5 = .int .i64 x5_1 ∧ v6 = .int .i64 x6_1 ∧ Aside0 (spec_tyRead.l0 kq a0 x5_1 x6_1 x103000_1 x103001_1 x103002_1 = some (r1,r2,r3,r4)) ∧ Aside0 (kq ≤ k) ∧ Aside0 (Kd.R (Kd.int .u8) 5 w' w.heap.size (fun _=>True) u103002 x103002_1) ∧ Aside0 (w'.heap[gb101]? = some (.cells #[.int .i64 x102000_1,.int .i64 x102001_1,(.slice none 0 0)] 75 (0,0))) ∧ Aside0 (w'.heap[gb102]? = some (.cells #[.int .i64 x103000_1,.int .i64 x103001_1,u103002] 75 (0,0))) ∧ Aside0 (Below w.heap.size w w'))
 case atStart=>exact ⟨(0),(0),(0),(0),(0),(0),(([]:List Int)),(.slice none 0 0),aq7,aq7,H',⟨Nat.le_refl _⟩,⟨aq23⟩,⟨by (with_reducible repeat (first | refine blk_drewN ?_ _ | refine blk_drew ?_ | refine blk_alloc ?_ _));refine blk_far ?_ NB101_102.out _;(with_reducible repeat (first | refine blk_drewN ?_ _ | refine blk_drew ?_ | refine blk_alloc ?_ _));refine blk_far ?_ NB101_102.out _;(with_reducible repeat (first | refine blk_drewN ?_ _ | refine blk_drew ?_ | refine blk_alloc ?_ _));refine blk_far ?_ NB101_102.out _;(with_reducible repeat (first | refine blk_drewN ?_ _ | refine blk_drew ?_ | refine blk_alloc ?_ _));exact BK101.out⟩,⟨by (with_reducible repeat (first | refine blk_drewN ?_ _ | refine blk_drew ?_ | refine blk_alloc ?_ _));refine blk_put (cs:=#[.int .i64 0,.int .i64 0,.slice none 0 0]) ?_ 2 _ rfl;(with_reducible repeat (first | refine blk_drewN ?_ _ | refine blk_drew ?_ | refine blk_alloc ?_ _));refine blk_put (cs:=#[.int .i64 0,.int .i64 0,.slice none 0 0]) ?_ 1 _ rfl;(with_reducible repeat (first | refine blk_drewN ?_ _ | refine blk_drew ?_ | refine blk_alloc ?_ _));refine blk_put (cs:=#[.int .i64 0,.int .i64 0,.slice none 0 0]) ?_ 0 _ rfl;(with_reducible repeat (first | refine blk_drewN ?_ _ | refine blk_drew ?_ | refine blk_alloc ?_ _));exact BK102.out⟩,⟨aq3⟩⟩
 case round =>
  clear H'
  try clear c1
  try clear c2
  try clear c2b0
  try clear c2b1
  try clear p2
  try clear c5
  try clear c6
  try clear c10
  try clear hcz11_0
  try clear hcz11_1
  try clear hcz11_2
  try clear hcz6_0
  try clear hcz6_1
  try clear hcz6_2
  try clear hcz7_0
  try clear hcz7_1
  try clear hcz7_2
  try clear hfz11_0
  try clear hfz11_1
  try clear hfz11_2
  try clear hfz6_0
  try clear hfz6_1
  try clear hfz6_2
  try clear hfz7_0
  try clear hfz7_1
  try clear hfz7_2
  obtain ⟨x5_1,x6_1,x102000_1,x102001_1,x103000_1,x103001_1,x103002_1,u103002,rfl,rfl,HA,HK1,HO_103002,BK101,BK102,HB⟩:=hrel
  cases gk with
  | zero=>exact absurd HA.out (by simp [spec_tyRead.l0])
  | succ k1 =>
   have H:=HA.out
   clear HA
   simp only [spec_tyRead.l0] at H
   by_cases c12:x6_1 ≤ (a0.size:Int)
   ·rw [if_pos c12] at H
    have c12b0:=decide_eq_true c12
    clear c12
    have HC13:=am H
    clear H
    go_upto_region 8 with (fail)
    go_cut [31] (fun v31 wc=>∃ (kq:Nat) (x31_12:Bool),v31 = .bool x31_12 ∧ Aside0 (spec_tyRead.j1 kq a0 x5_1 x6_1 x31_12 x103000_1 x103001_1 x103002_1 = some (r1,r2,r3,r4)) ∧ Aside0 (kq ≤ k1) ∧ Aside0 (Kd.R (Kd.int .u8) 5 wc w.heap.size (fun _=>True) u103002 x103002_1) ∧ Aside0 (wc.heap[gb101]? = some (.cells #[.int .i64 x102000_1,.int .i64 x102001_1,(.slice none 0 0)] 75 (0,0))) ∧ Aside0 (wc.heap[gb102]? = some (.cells #[.int .i64 x103000_1,.int .i64 x103001_1,u103002] 75 (0,0))) ∧ Aside0 (Below w.heap.size w wc))
    case first =>
     have H:=HC13.out
     clear HC13
     by_cases c14:x6_1 < (a0.size:Int)
     rotate_left
     ·rw [if_neg c14] at H
      have c14b0:=decide_eq_false c14
      clear c14
      (first | rw [c14b0] | (simp only [i64_w,i32_w];rw [c14b0]) | skip)
      have H':=am H
      clear H
      go_wp2
      go_meet
      case rel=>exact ⟨_,(false),aq7,H',⟨aq74⟩,⟨aq26⟩,⟨aq1⟩,⟨aq9⟩,⟨aq3⟩⟩
     rw [if_pos c14] at H
     have c14b0:=decide_eq_true c14
     clear c14
     (first | rw [c14b0] | (simp only [i64_w,i32_w];rw [c14b0]) | skip)
     replace H:=gd H
     obtain ⟨c15,H⟩:=H
     have c15b0:=decide_eq_true c15
     clear c15
     have H':=am H
     clear H
     have p16:0 ≤ (x6_1:Int):=of_decide_eq_true aq4
     have q16:x6_1 < (a0.size:Int):=of_decide_eq_true aq4
     have hx16:=bt_at a0 x6_1
     replace p16:=eq_true p16
     replace q16:=eq_true q16
     go_wp2
     go_meet
     case rel=>exact ⟨_,(((bt a0 x6_1) != 47)),aq7,H',⟨aq74⟩,⟨aq26⟩,⟨aq1⟩,⟨aq9⟩,⟨aq3⟩⟩
    case rest =>
     clear HC13
     try clear c1
     try clear p1
     try clear q1
     try clear hx1
     try clear c2
     try clear c2b0
     try clear c2b1
     try clear p2
     try clear c5
     try clear c6
     try clear c10
     try clear c12
     try clear c12b0
     try clear c14
     try clear c14b0
     try clear c15
     try clear c15b0
     try clear p16
     try clear q16
     try clear hx16
     try clear hcz11_0
     try clear hcz11_1
     try clear hcz11_2
     try clear hcz6_0
     try clear hcz6_1
     try clear hcz6_2
     try clear hcz7_0
     try clear hcz7_1
     try clear hcz7_2
     try clear hfz11_0
     try clear hfz11_1
     try clear hfz11_2
     try clear hfz6_0
     try clear hfz6_1
     try clear hfz6_2
     try clear hfz7_0
     try clear hfz7_1
     try clear hfz7_2
     try clear p16
     try clear p2
     try clear q16
     obtain ⟨kq,x31_12,rfl,HA,HJ12,HO_103002,BK101,BK102,HB⟩:=hcut
     cases kq with
     | zero=>exact absurd HA.out (by simp [spec_tyRead.j1])
     | succ kj12 =>
      have H:=HA.out
      clear HA
      simp only [spec_tyRead.j1] at H
      by_cases c17:x31_12 = true
      rotate_left
      ·replace c17:=Bool.eq_false_iff.mpr c17
       subst c17
       rw [if_neg Bool.false_ne_true] at H
       by_cases c31:x103001_1 > 0
       rotate_left
       ·rw [if_neg c31] at H
        have c31b0:=decide_eq_false c31
        clear c31
        by_cases c42:x5_1 = 0
        rotate_left
        ·rw [if_neg c42] at H
         have c42b0:=beq_eq_false_iff_ne.mpr c42
         have c42b1:=bne_iff_ne.mpr c42
         have H':=am H
         clear H
         have hnb46:=NB102_101.out
         have hnc46:=NB101_102.out
         obtain ⟨hcz47_0,hcz47_1,hcz47_2,hfz47_0,hfz47_1,hfz47_2⟩:=blk3_ BK102.out
         go_wp2
         go_roundg kj12
         case measure=>have:=HK1.out;have:=HJ12.out;omega
         case rel=>exact ⟨(0),(wrap64 (x6_1 + 1)),(x102000_1),(x102001_1),(x5_1),(wrap64 (x103001_1 + 1)),(x103002_1),(u103002),aq7,aq7,H',⟨by have:=HK1.out;have:=HJ12.out;omega⟩,⟨aq62⟩,⟨aq60⟩,⟨aq53⟩,⟨aq3⟩⟩
        rw [if_pos c42] at H
        have c42b0:=beq_iff_eq.mpr c42
        have c42b1:=bne_eq_false_iff_eq.mpr c42
        clear c42
        simp only [Option.some.injEq,Prod.mk.injEq] at H
        obtain ⟨rfl,rfl,rfl,rfl⟩:=H
        have hnb43:=NB102_101.out
        have hnc43:=NB101_102.out
        obtain ⟨hcz44_0,hcz44_1,hcz44_2,hfz44_0,hfz44_1,hfz44_2⟩:=blk3_ BK102.out
        obtain ⟨hcz45_0,hcz45_1,hcz45_2,hfz45_0,hfz45_1,hfz45_2⟩:=blk3_ BK101.out
        go_wp2
        refine bodyPost_ret (results_ct rfl _ _ gb101 75 #[.int .i64 0,.int .i64 0,.slice none 0 0] (0,0) _ rfl aq30 Tryz.underlying75 rfl k_r) rfl ?_
        exact ⟨_,aq8,aq23,aq3⟩
       rw [if_pos c31] at H
       have c31b0:=decide_eq_true c31
       clear c31
       by_cases c32:x5_1 = x103000_1
       rotate_left
       ·rw [if_neg c32] at H
        have c32b0:=beq_eq_false_iff_ne.mpr c32
        have c32b1:=bne_iff_ne.mpr c32
        simp only [Option.some.injEq,Prod.mk.injEq] at H
        obtain ⟨rfl,rfl,rfl,rfl⟩:=H
        have hnb39:=NB102_101.out
        have hnc39:=NB101_102.out
        obtain ⟨hcz40_0,hcz40_1,hcz40_2,hfz40_0,hfz40_1,hfz40_2⟩:=blk3_ BK102.out
        obtain ⟨hcz41_0,hcz41_1,hcz41_2,hfz41_0,hfz41_1,hfz41_2⟩:=blk3_ BK101.out
        go_wp2
        refine bodyPost_ret (results_ct rfl _ _ gb101 75 #[.int .i64 0,.int .i64 0,.slice none 0 0] (0,0) _ rfl aq30 Tryz.underlying75 rfl k_r) rfl ?_
        exact ⟨_,aq8,aq23,aq3⟩
       rw [if_pos c32] at H
       have c32b0:=beq_iff_eq.mpr c32
       have c32b1:=bne_eq_false_iff_eq.mpr c32
       clear c32
       by_cases c33:x5_1 = 0
       rotate_left
       ·rw [if_neg c33] at H
        have c33b0:=beq_eq_false_iff_ne.mpr c33
        have c33b1:=bne_iff_ne.mpr c33
        have H':=am H
        clear H
        have hnb37:=NB102_101.out
        have hnc37:=NB101_102.out
        obtain ⟨hcz38_0,hcz38_1,hcz38_2,hfz38_0,hfz38_1,hfz38_2⟩:=blk3_ BK102.out
        go_wp2
        go_roundg kj12
        case measure=>have:=HK1.out;have:=HJ12.out;omega
        case rel=>exact ⟨(0),(wrap64 (x6_1 + 1)),(x102000_1),(x102001_1),(x5_1),(wrap64 (x103001_1 + 1)),(x103002_1),(u103002),aq7,aq7,H',⟨by have:=HK1.out;have:=HJ12.out;omega⟩,⟨aq62⟩,⟨aq60⟩,⟨aq53⟩,⟨aq3⟩⟩
       rw [if_pos c33] at H
       have c33b0:=beq_iff_eq.mpr c33
       have c33b1:=bne_eq_false_iff_eq.mpr c33
       clear c33
       simp only [Option.some.injEq,Prod.mk.injEq] at H
       obtain ⟨rfl,rfl,rfl,rfl⟩:=H
       have hnb34:=NB102_101.out
       have hnc34:=NB101_102.out
       obtain ⟨hcz35_0,hcz35_1,hcz35_2,hfz35_0,hfz35_1,hfz35_2⟩:=blk3_ BK102.out
       obtain ⟨hcz36_0,hcz36_1,hcz36_2,hfz36_0,hfz36_1,hfz36_2⟩:=blk3_ BK101.out
       go_wp2
       refine bodyPost_ret (results_ct rfl _ _ gb101 75 #[.int .i64 0,.int .i64 0,.slice none 0 0] (0,0) _ rfl aq30 Tryz.underlying75 rfl k_r) rfl ?_
       exact ⟨_,aq8,aq23,aq3⟩
      subst c17
      rw [if_pos rfl] at H
      replace H:=gd H
      obtain ⟨c18,H⟩:=H
      have c18b0:=decide_eq_true c18
      clear c18
      replace H:=gd H
      obtain ⟨c19,H⟩:=H
      have c19b0:=decide_eq_true c19
      clear c19
      obtain ⟨t103,A21,H⟩:=bn H
      by_cases c22:t103 = true
      rotate_left
      ·replace c22:=Bool.eq_false_iff.mpr c22
       subst c22
       rw [if_neg Bool.false_ne_true] at H
       simp only [Option.some.injEq,Prod.mk.injEq] at H
       obtain ⟨rfl,rfl,rfl,rfl⟩:=H
       have p20:0 ≤ (x6_1:Int):=of_decide_eq_true aq4
       have q20:x6_1 < (a0.size:Int):=of_decide_eq_true aq4
       have hx20:=bt_at a0 x6_1
       replace p20:=eq_true p20
       replace q20:=eq_true q20
       go_wp2_with (first | ((with_reducible refine gate_callee (f:=97) rfl ?_);refine goesL_ (some 35) rfl rfl Tryz.func97 k_r rfl #[.int .u8 (bt a0 x6_1)] rfl aq6 ?_;(with_reducible refine (spec_tyIs.calls (bt a0 x6_1) false _ A21.out).mono ?_);rintro e w' ⟨rfl,⟨nd,rfl⟩⟩;refine ⟨_,rfl,?_⟩;(try (rw [drewN_self wc];generalize hq_:World.drewN wc _ = wc;have n0_:Aside0 (Kd.R (Kd.int .u8) 5 wc w.heap.size (fun _=>True) u103002 x103002_1):=⟨by rw [← hq_];exact aq26⟩;have n1_:Aside0 (wc.heap[gb101]? = some (.cells #[.int .i64 x102000_1,.int .i64 x102001_1,.slice none 0 0] 75 (0,0))):=⟨by rw [← hq_];exact aq1⟩;have n2_:Aside0 (wc.heap[gb102]? = some (.cells #[.int .i64 x103000_1,.int .i64 x103001_1,u103002] 75 (0,0))):=⟨by rw [← hq_];exact aq9⟩;have n3_:Aside0 (Below w.heap.size w wc):=⟨by rw [← hq_];exact aq3⟩;clear HO_103002 BK101 BK102 HB hq_;have HO_103002:=n0_;have BK101:=n1_;have BK102:=n2_;have HB:=n3_;clear n0_ n1_ n2_ n3_));have hnb29:=NB101_102.out;have hnc29:=NB102_101.out;obtain ⟨hcz30_0,hcz30_1,hcz30_2,hfz30_0,hfz30_1,hfz30_2⟩:=blk3_ BK101.out))
       refine bodyPost_ret (results_ct rfl _ _ gb101 75 #[.int .i64 0,.int .i64 0,.slice none 0 0] (0,0) _ rfl aq30 Tryz.underlying75 rfl k_r) rfl ?_
       exact ⟨_,aq8,aq23,aq3⟩
      subst c22
      rw [if_pos rfl] at H
      replace H:=gd H
      obtain ⟨c24,H⟩:=H
      have LMc24:=am c24
      clear c24
      obtain ⟨y104,hy_⟩:∃ y_:List Int,y_ = (x103002_1 ++ [bt a0 x6_1]):=⟨_,rfl⟩
      replace H:(spec_tyRead.l0 kj12 a0 (wrap64 (x5_1 + 1)) (wrap64 (x6_1 + 1)) x103000_1 x103001_1 y104) = some (r1,r2,r3,r4):=aq5
      have Ny104:=am hy_
      clear hy_
      have H':=am H
      clear H
      have p20:0 ≤ (x6_1:Int):=of_decide_eq_true aq4
      have q20:x6_1 < (a0.size:Int):=of_decide_eq_true aq4
      have hx20:=bt_at a0 x6_1
      replace p20:=eq_true p20
      replace q20:=eq_true q20
      try go_wp2_with (first | ((with_reducible refine gate_callee (f:=97) rfl ?_);refine goesL_ (some 35) rfl rfl Tryz.func97 k_r rfl #[.int .u8 (bt a0 x6_1)] rfl aq6 ?_;(with_reducible refine (spec_tyIs.calls (bt a0 x6_1) true _ A21.out).mono ?_);rintro e w' ⟨rfl,⟨nd,rfl⟩⟩;refine ⟨_,rfl,?_⟩;(try (rw [drewN_self wc];generalize hq_:World.drewN wc _ = wc;have n0_:Aside0 (Kd.R (Kd.int .u8) 5 wc w.heap.size (fun _=>True) u103002 x103002_1):=⟨by rw [← hq_];exact aq26⟩;have n1_:Aside0 (wc.heap[gb101]? = some (.cells #[.int .i64 x102000_1,.int .i64 x102001_1,.slice none 0 0] 75 (0,0))):=⟨by rw [← hq_];exact aq1⟩;have n2_:Aside0 (wc.heap[gb102]? = some (.cells #[.int .i64 x103000_1,.int .i64 x103001_1,u103002] 75 (0,0))):=⟨by rw [← hq_];exact aq9⟩;have n3_:Aside0 (Below w.heap.size w wc):=⟨by rw [← hq_];exact aq3⟩;clear HO_103002 BK101 BK102 HB hq_;have HO_103002:=n0_;have BK101:=n1_;have BK102:=n2_;have HB:=n3_;clear n0_ n1_ n2_ n3_))))
      replace HO_103002:=am (Kd.R_drew HO_103002.out)
      replace BK101:=am (blk_drew BK101.out)
      replace BK102:=am (blk_drew BK102.out)
      replace HB:=am (below_drew1 HB.out)
      have p23:0 ≤ (x6_1:Int):=of_decide_eq_true aq4
      have q23:x6_1 < (a0.size:Int):=of_decide_eq_true aq4
      have hx23:=bt_at a0 x6_1
      replace p23:=eq_true p23
      replace q23:=eq_true q23
      refine start_ (n:=9) (S:=fun w'=>w'.cell? ⟨gb102,0,none⟩ = some (.int .i64 x103000_1) ∧ w'.cell? ⟨gb102,1,none⟩ = some (.int .i64 x103001_1) ∧ w'.cell? ⟨gb102,2,none⟩ = some (u103002)) (ds:=[8]) (bm 9 0) k_r rfl rfl ⟨bk BK102 0,bk BK102 1,bk BK102 2⟩ (fun hHeld=>?_);refine with_tabW spec_tyRead.tab11 spec_tyRead.bits11 (fun HT_ HW_=>?_)
      generalize wc.drew = w25 at HO_103002 BK101 BK102 HB hHeld ⊢
      refine py (i:=0) (N:=some 38) (bm 9 1) ?_
      refine py (i:=2) (N:=some 40) (bm 9 5) ?_
      refine py (i:=3) (N:=some 41) (bm 9 13) ?_
      refine tk3 (i:=1) (N:=some 39) (bm 9 15) hHeld ?_
      refine tk3 (i:=4) (N:=some 42) (bm 9 31) hHeld ?_
      refine one_ (i:=5) (N:=some 43) (bm 9 63) rfl rfl (one_of HT_.out k_r) d_c (fun K hK=>?_)
      refine value_ (w1:=?_) (v:=?_) (by rfl) rfl ?_ ?_
      rotate_left 2
      ·go_simp
       constructor
       ·rfl
       ·rfl
      refine hK.out _ _ ⟨(blk_cell (blk_alloc BK102.out _) 0).trans rfl,(blk_cell (blk_alloc BK102.out _) 1).trans rfl,(blk_cell (blk_alloc BK102.out _) 2).trans rfl⟩ (fun hHeld=>?_)
      clear hK K
      refine nm (some 43) ?_
      refine one_ (i:=6) (N:=some 44) (bm 9 127) rfl rfl (one_of HT_.out k_r) d_c (fun K hK=>?_)
      refine Kd.R_append_step (Kd.int .u8) (w0:=w) w.heap.size (by rfl) (.tmp 39) (.tmp 43) 63 5 (.int .u8 0) 1 rfl Tryz.underlying63 info5 rfl d_c o_m u103002 x103002_1 (bt a0 x6_1) [.int .u8 (bt a0 x6_1)] (fun _=>True) (fun _=>False) rfl rfl ?aP (fun _ hk=>hk.elim) ?aF ?aO ?aB ?aS ?aL ?_
      (case aP=>exact rfl)
      (case aB=>exact aq3)
      (case aF=>exact aq89)
      (case aO=>exact aq26)
      (case aS=>exact (below_size aq3))
      (case aL=>have:=LMc24.out;omega)
      intro v105 w26 ho hb hg hat
      rw [← Ny104.out] at ho
      replace BK101:=am (bg BK101 hg (Kd.R_ne HO_103002.out BK101.out d_c))
      replace BK102:=am (bg BK102 hg (Kd.R_ne HO_103002.out BK102.out d_c))
      replace HB:=am (hb)
      have HO106:=am (ho)
      clear HO_103002 ho hb hg hat
      obtain ⟨Ao27,co27,eo27⟩:=Kd.R_slice HO106.out
      (first | subst eo27 | (injection eo27 with f1_ f2_ f3_;have f4_:=f1_.symm;have f5_:=f3_.symm;clear f1_ f2_ f3_;subst f4_;subst f5_))
      refine hK.out _ _ ⟨bk BK102 0,bk BK102 1,bk BK102 2⟩ (fun hHeld=>?_)
      clear hK K
      refine nm (some 44) ?_
      refine py (i:=7) (N:=some 45) (bm 9 255) ?_
      refine last_ (i:=8) (N:=none) (bm 9 511) rfl rfl (one_of HT_.out k_r) d_c (fun K hK=>?_)
      have hs28:w26.cell? ⟨gb102,2,none⟩ = some (u103002):=(blk_cell BK102.out 2).trans rfl
      have hfs28:=blk_frozen BK102.out 2
      have hns28_0:=NB101_102.out
      have hms28_0:=NB102_101.out
      refine skip_ (w1:=?_) (by rfl) rfl ?_ ?_
      rotate_left
      ·go_simp
       rfl
      refine hK.out _ _ ?_
      clear hK K
      refine done_ (done_of HT_.out k_r) ?_
      try go_wp2
      go_roundg kj12
      case measure=>have:=HK1.out;have:=HJ12.out;omega
      case rel=>exact ⟨(wrap64 (x5_1 + 1)),(wrap64 (x6_1 + 1)),(x102000_1),(x102001_1),(x103000_1),(x103001_1),(y104),(.slice Ao27 y104.length co27),aq7,aq7,H',⟨by have:=HK1.out;have:=HJ12.out;omega⟩,⟨by (with_reducible repeat (first | apply Kd.R_alloc | apply Kd.R_drewN | apply Kd.R_drew));exact Kd.R_mono (Kd.R_far (p:=⟨gb102,2,none⟩) (Kd.R_types HO106.out BK102.out d_c) (fun _ hk=>hk.2) (.slice Ao27 y104.length co27)) (fun _ hk=>trivial)⟩,⟨by (with_reducible repeat (first | refine blk_drewN ?_ _ | refine blk_drew ?_ | refine blk_alloc ?_ _));refine blk_far ?_ NB101_102.out _;(with_reducible repeat (first | refine blk_drewN ?_ _ | refine blk_drew ?_ | refine blk_alloc ?_ _));exact BK101.out⟩,⟨by (with_reducible repeat (first | refine blk_drewN ?_ _ | refine blk_drew ?_ | refine blk_alloc ?_ _));refine blk_put (cs:=#[.int .i64 x103000_1,.int .i64 x103001_1,u103002]) ?_ 2 _ rfl;(with_reducible repeat (first | refine blk_drewN ?_ _ | refine blk_drew ?_ | refine blk_alloc ?_ _));exact BK102.out⟩,⟨aq3⟩⟩
   rw [if_neg c12] at H
   have c12b0:=decide_eq_false c12
   clear c12
   have HC48:=am H
   clear H
   go_upto_region 18 with (fail)
   go_cut [81] (fun v81 wc=>∃ (kq:Nat) (x81_47:Bool),v81 = .bool x81_47 ∧ Aside0 (spec_tyRead.j2 kq x81_47 x103000_1 x103001_1 x103002_1 = some (r1,r2,r3,r4)) ∧ Aside0 (kq ≤ k1) ∧ Aside0 (Kd.R (Kd.int .u8) 5 wc w.heap.size (fun _=>True) u103002 x103002_1) ∧ Aside0 (wc.heap[gb101]? = some (.cells #[.int .i64 x102000_1,.int .i64 x102001_1,(.slice none 0 0)] 75 (0,0))) ∧ Aside0 (wc.heap[gb102]? = some (.cells #[.int .i64 x103000_1,.int .i64 x103001_1,u103002] 75 (0,0))) ∧ Aside0 (Below w.heap.size w wc))
   case first =>
    have H:=HC48.out
    clear HC48
    by_cases c49:x103000_1 > 7
    ·rw [if_pos c49] at H
     have c49b0:=decide_eq_true c49
     clear c49
     (first | rw [c49b0] | (simp only [i64_w,i32_w];rw [c49b0]) | skip)
     have H':=am H
     clear H
     have hnb50:=NB102_101.out
     have hnc50:=NB101_102.out
     obtain ⟨hcz51_0,hcz51_1,hcz51_2,hfz51_0,hfz51_1,hfz51_2⟩:=blk3_ BK102.out
     go_wp2
     go_meet
     case rel=>exact ⟨_,(true),aq7,H',⟨aq74⟩,⟨aq26⟩,⟨aq1⟩,⟨aq9⟩,⟨aq3⟩⟩
    rw [if_neg c49] at H
    have c49b0:=decide_eq_false c49
    clear c49
    (first | rw [c49b0] | (simp only [i64_w,i32_w];rw [c49b0]) | skip)
    by_cases c52:x103001_1 > 7
    ·rw [if_pos c52] at H
     have c52b0:=decide_eq_true c52
     clear c52
     have H':=am H
     clear H
     have hnb53:=NB102_101.out
     have hnc53:=NB101_102.out
     obtain ⟨hcz54_0,hcz54_1,hcz54_2,hfz54_0,hfz54_1,hfz54_2⟩:=blk3_ BK102.out
     go_wp2
     go_meet
     case rel=>exact ⟨_,(true),aq7,H',⟨aq74⟩,⟨aq26⟩,⟨aq1⟩,⟨aq9⟩,⟨aq3⟩⟩
    rw [if_neg c52] at H
    have c52b0:=decide_eq_false c52
    clear c52
    have H':=am H
    clear H
    have hnb55:=NB102_101.out
    have hnc55:=NB101_102.out
    obtain ⟨hcz56_0,hcz56_1,hcz56_2,hfz56_0,hfz56_1,hfz56_2⟩:=blk3_ BK102.out
    obtain ⟨Ao57,co57,eo57⟩:=Kd.R_slice HO_103002.out
    subst eo57
    go_wp2
    go_meet
    case rel=>exact ⟨_,(decide ((x103002_1.length:Int) > 36)),aq7,H',⟨aq74⟩,⟨aq26⟩,⟨aq1⟩,⟨aq9⟩,⟨aq3⟩⟩
   case rest =>
    clear HC48
    try clear c1
    try clear p1
    try clear q1
    try clear hx1
    try clear c2
    try clear c2b0
    try clear c2b1
    try clear p2
    try clear q2
    try clear hx2
    try clear c3
    try clear c4
    try clear c5
    try clear c6
    try clear p6
    try clear c9
    try clear c10
    try clear c12
    try clear c12b0
    try clear c14
    try clear c14b0
    try clear c15
    try clear c15b0
    try clear p16
    try clear q16
    try clear hx16
    try clear c17
    try clear c18
    try clear c18b0
    try clear c19
    try clear c19b0
    try clear p20
    try clear q20
    try clear hx20
    try clear c22
    try clear p23
    try clear q23
    try clear hx23
    try clear c24
    try clear c29
    try clear c31
    try clear c31b0
    try clear c32
    try clear c32b0
    try clear c32b1
    try clear c33
    try clear c33b0
    try clear c33b1
    try clear c34
    try clear c37
    try clear c39
    try clear c42
    try clear c42b0
    try clear c42b1
    try clear c43
    try clear c46
    try clear c49
    try clear c49b0
    try clear c50
    try clear c52
    try clear c52b0
    try clear c53
    try clear c55
    try clear hcz11_0
    try clear hcz11_1
    try clear hcz11_2
    try clear hcz30_0
    try clear hcz30_1
    try clear hcz30_2
    try clear hcz35_0
    try clear hcz35_1
    try clear hcz35_2
    try clear hcz36_0
    try clear hcz36_1
    try clear hcz36_2
    try clear hcz38_0
    try clear hcz38_1
    try clear hcz38_2
    try clear hcz40_0
    try clear hcz40_1
    try clear hcz40_2
    try clear hcz41_0
    try clear hcz41_1
    try clear hcz41_2
    try clear hcz44_0
    try clear hcz44_1
    try clear hcz44_2
    try clear hcz45_0
    try clear hcz45_1
    try clear hcz45_2
    try clear hcz47_0
    try clear hcz47_1
    try clear hcz47_2
    try clear hcz51_0
    try clear hcz51_1
    try clear hcz51_2
    try clear hcz54_0
    try clear hcz54_1
    try clear hcz54_2
    try clear hcz56_0
    try clear hcz56_1
    try clear hcz56_2
    try clear hcz6_0
    try clear hcz6_1
    try clear hcz6_2
    try clear hcz7_0
    try clear hcz7_1
    try clear hcz7_2
    try clear hfz11_0
    try clear hfz11_1
    try clear hfz11_2
    try clear hfz30_0
    try clear hfz30_1
    try clear hfz30_2
    try clear hfz35_0
    try clear hfz35_1
    try clear hfz35_2
    try clear hfz36_0
    try clear hfz36_1
    try clear hfz36_2
    try clear hfz38_0
    try clear hfz38_1
    try clear hfz38_2
    try clear hfz40_0
    try clear hfz40_1
    try clear hfz40_2
    try clear hfz41_0
    try clear hfz41_1
    try clear hfz41_2
    try clear hfz44_0
    try clear hfz44_1
    try clear hfz44_2
    try clear hfz45_0
    try clear hfz45_1
    try clear hfz45_2
    try clear hfz47_0
    try clear hfz47_1
    try clear hfz47_2
    try clear hfz51_0
    try clear hfz51_1
    try clear hfz51_2
    try clear hfz54_0
    try clear hfz54_1
    try clear hfz54_2
    try clear hfz56_0
    try clear hfz56_1
    try clear hfz56_2
    try clear hfz6_0
    try clear hfz6_1
    try clear hfz6_2
    try clear hfz7_0
    try clear hfz7_1
    try clear hfz7_2
    try clear p1
    try clear p16
    try clear p2
    try clear p20
    try clear p23
    try clear q1
    try clear q16
    try clear q20
    try clear q23
    obtain ⟨kq,x81_47,rfl,HA,HJ47,HO_103002,BK101,BK102,HB⟩:=hcut
    cases kq with
    | zero=>exact absurd HA.out (by simp [spec_tyRead.j2])
    | succ kj47 =>
     have H:=HA.out
     clear HA
     simp only [spec_tyRead.j2] at H
     by_cases c58:x81_47 = true
     ·subst c58
      rw [if_pos rfl] at H
      simp only [Option.some.injEq,Prod.mk.injEq] at H
      obtain ⟨rfl,rfl,rfl,rfl⟩:=H
      have hnb59:=NB101_102.out
      have hnc59:=NB102_101.out
      obtain ⟨hcz60_0,hcz60_1,hcz60_2,hfz60_0,hfz60_1,hfz60_2⟩:=blk3_ BK101.out
      go_wp2
      refine bodyPost_ret (results_ct rfl _ _ gb101 75 #[.int .i64 0,.int .i64 0,.slice none 0 0] (0,0) _ rfl aq30 Tryz.underlying75 rfl k_r) rfl ?_
      exact ⟨_,aq8,aq23,aq3⟩
     replace c58:=Bool.eq_false_iff.mpr c58
     subst c58
     rw [if_neg Bool.false_ne_true] at H
     have H':=am H
     clear H
     have hnb61:=NB102_101.out
     have hnc61:=NB101_102.out
     obtain ⟨hcz62_0,hcz62_1,hcz62_2,hfz62_0,hfz62_1,hfz62_2⟩:=blk3_ BK102.out
     obtain ⟨Ao63,co63,eo63⟩:=Kd.R_slice HO_103002.out
     subst eo63
     go_wp2
     go_loopg [86] kj47 (fun kq v86 w'=>∃ (x86_3:Int) (x102000_3:Int) (x102001_3:Int),v86 = .int .i64 x86_3 ∧ Aside0 (spec_tyRead.l1 kq x103002_1 (x103002_1.length:Int) x86_3 x103000_1 x103001_1 x103002_1 = some (r1,r2,r3,r4)) ∧ Aside0 (kq ≤ kj47) ∧ Aside0 (Kd.R (Kd.int .u8) 5 w' w.heap.size (fun _=>True) (.slice Ao63 x103002_1.length co63) x103002_1) ∧ Aside0 (Kd.R (Kd.int .u8) 5 w' w.heap.size (fun _=>True) (.slice Ao63 x103002_1.length co63) x103002_1) ∧ Aside0 (w'.heap[gb101]? = some (.cells #[.int .i64 x102000_3,.int .i64 x102001_3,(.slice none 0 0)] 75 (0,0))) ∧ Aside0 (w'.heap[gb102]? = some (.cells #[.int .i64 x103000_1,.int .i64 x103001_1,(.slice Ao63 x103002_1.length co63)] 75 (0,0))) ∧ Aside0 (Below w.heap.size w w'))
     case atStart=>exact ⟨(0),(x102000_1),(x102001_1),aq7,H',⟨Nat.le_refl _⟩,⟨aq26⟩,⟨aq26⟩,⟨aq1⟩,⟨aq9⟩,⟨aq3⟩⟩
     case round =>
      clear H'
      try clear c1
      try clear p1
      try clear q1
      try clear hx1
      try clear c2
      try clear c2b0
      try clear c2b1
      try clear p2
      try clear q2
      try clear hx2
      try clear c3
      try clear c4
      try clear c5
      try clear c6
      try clear p6
      try clear c9
      try clear c10
      try clear c12
      try clear c12b0
      try clear c14
      try clear c14b0
      try clear c15
      try clear c15b0
      try clear p16
      try clear q16
      try clear hx16
      try clear c17
      try clear c18
      try clear c18b0
      try clear c19
      try clear c19b0
      try clear p20
      try clear q20
      try clear hx20
      try clear c22
      try clear p23
      try clear q23
      try clear hx23
      try clear c24
      try clear c29
      try clear c31
      try clear c31b0
      try clear c32
      try clear c32b0
      try clear c32b1
      try clear c33
      try clear c33b0
      try clear c33b1
      try clear c34
      try clear c37
      try clear c39
      try clear c42
      try clear c42b0
      try clear c42b1
      try clear c43
      try clear c46
      try clear c49
      try clear c49b0
      try clear c50
      try clear c52
      try clear c52b0
      try clear c53
      try clear c55
      try clear c58
      try clear c59
      try clear c61
      try clear hcz11_0
      try clear hcz11_1
      try clear hcz11_2
      try clear hcz30_0
      try clear hcz30_1
      try clear hcz30_2
      try clear hcz35_0
      try clear hcz35_1
      try clear hcz35_2
      try clear hcz36_0
      try clear hcz36_1
      try clear hcz36_2
      try clear hcz38_0
      try clear hcz38_1
      try clear hcz38_2
      try clear hcz40_0
      try clear hcz40_1
      try clear hcz40_2
      try clear hcz41_0
      try clear hcz41_1
      try clear hcz41_2
      try clear hcz44_0
      try clear hcz44_1
      try clear hcz44_2
      try clear hcz45_0
      try clear hcz45_1
      try clear hcz45_2
      try clear hcz47_0
      try clear hcz47_1
      try clear hcz47_2
      try clear hcz51_0
      try clear hcz51_1
      try clear hcz51_2
      try clear hcz54_0
      try clear hcz54_1
      try clear hcz54_2
      try clear hcz56_0
      try clear hcz56_1
      try clear hcz56_2
      try clear hcz60_0
      try clear hcz60_1
      try clear hcz60_2
      try clear hcz62_0
      try clear hcz62_1
      try clear hcz62_2
      try clear hcz6_0
      try clear hcz6_1
      try clear hcz6_2
      try clear hcz7_0
      try clear hcz7_1
      try clear hcz7_2
      try clear hfz11_0
      try clear hfz11_1
      try clear hfz11_2
      try clear hfz30_0
      try clear hfz30_1
      try clear hfz30_2
      try clear hfz35_0
      try clear hfz35_1
      try clear hfz35_2
      try clear hfz36_0
      try clear hfz36_1
      try clear hfz36_2
      try clear hfz38_0
      try clear hfz38_1
      try clear hfz38_2
      try clear hfz40_0
      try clear hfz40_1
      try clear hfz40_2
      try clear hfz41_0
      try clear hfz41_1
      try clear hfz41_2
      try clear hfz44_0
      try clear hfz44_1
      try clear hfz44_2
      try clear hfz45_0
      try clear hfz45_1
      try clear hfz45_2
      try clear hfz47_0
      try clear hfz47_1
      try clear hfz47_2
      try clear hfz51_0
      try clear hfz51_1
      try clear hfz51_2
      try clear hfz54_0
      try clear hfz54_1
      try clear hfz54_2
      try clear hfz56_0
      try clear hfz56_1
      try clear hfz56_2
      try clear hfz60_0
      try clear hfz60_1
      try clear hfz60_2
      try clear hfz62_0
      try clear hfz62_1
      try clear hfz62_2
      try clear hfz6_0
      try clear hfz6_1
      try clear hfz6_2
      try clear hfz7_0
      try clear hfz7_1
      try clear hfz7_2
      try clear p1
      try clear p16
      try clear p2
      try clear p20
      try clear p23
      try clear p6
      try clear q1
      try clear q16
      try clear q2
      try clear q20
      try clear q23
      obtain ⟨x86_3,x102000_3,x102001_3,rfl,HA,HK3,HO_84,HO_103002,BK101,BK102,HB⟩:=hrel
      cases gk with
      | zero=>exact absurd HA.out (by simp [spec_tyRead.l1])
      | succ k3 =>
       have H:=HA.out
       clear HA
       simp only [spec_tyRead.l1] at H
       by_cases c64:x86_3 < (x103002_1.length:Int)
       rotate_left
       ·rw [if_neg c64] at H
        have c64b0:=decide_eq_false c64
        clear c64
        simp only [Option.some.injEq,Prod.mk.injEq] at H
        obtain ⟨rfl,rfl,rfl,rfl⟩:=H
        have hnb80:=NB102_101.out
        have hnc80:=NB101_102.out
        obtain ⟨hcz81_0,hcz81_1,hcz81_2,hfz81_0,hfz81_1,hfz81_2⟩:=blk3_ BK102.out
        obtain ⟨hcz82_0,hcz82_1,hcz82_2,hfz82_0,hfz82_1,hfz82_2⟩:=blk3_ BK101.out
        go_wp2
        refine bodyPost_ret (results_ct rfl _ _ gb101 75 #[.int .i64 x103000_1,.int .i64 x103001_1,.slice Ao63 x103002_1.length co63] (0,0) _ rfl (by (with_reducible repeat (first | refine blk_drewN ?_ _ | refine blk_drew ?_ | refine blk_alloc ?_ _));refine blk_put (cs:=#[.int .i64 x103000_1,.int .i64 x103001_1,.slice none 0 0]) ?_ 2 _ rfl;(with_reducible repeat (first | refine blk_drewN ?_ _ | refine blk_drew ?_ | refine blk_alloc ?_ _));refine blk_put (cs:=#[.int .i64 x103000_1,.int .i64 x102001_3,.slice none 0 0]) ?_ 1 _ rfl;(with_reducible repeat (first | refine blk_drewN ?_ _ | refine blk_drew ?_ | refine blk_alloc ?_ _));refine blk_put (cs:=#[.int .i64 x102000_3,.int .i64 x102001_3,.slice none 0 0]) ?_ 0 _ rfl;(with_reducible repeat (first | refine blk_drewN ?_ _ | refine blk_drew ?_ | refine blk_alloc ?_ _));exact BK101.out) Tryz.underlying75 rfl k_r) rfl ?_
        exact ⟨_,aq8,by (with_reducible repeat (first | apply Kd.R_alloc | apply Kd.R_drewN | apply Kd.R_drew));exact Kd.R_mono (Kd.R_far (p:=⟨gb101,2,none⟩) (Kd.R_far (p:=⟨gb101,1,none⟩) (Kd.R_far (p:=⟨gb101,0,none⟩) (Kd.R_types HO_103002.out BK101.out d_c) (fun _ hk=>hk.2) (.int .i64 x103000_1)) (fun _ hk=>hk.2) (.int .i64 x103001_1)) (fun _ hk=>hk.2) (.slice Ao63 x103002_1.length co63)) (fun _ hk=>trivial),aq3⟩
       rw [if_pos c64] at H
       have c64b0:=decide_eq_true c64
       clear c64
       replace H:=gd H
       obtain ⟨c65,H⟩:=H
       have c65b0:=decide_eq_true c65
       clear c65
       replace H:=gd H
       obtain ⟨c66,H⟩:=H
       have c66b0:=decide_eq_true c66
       clear c66
       have c67b0:=eq_true (of_decide_eq_true aq4:0 ≤ x86_3)
       replace H:=gd H
       obtain ⟨c68,H⟩:=H
       have c68b0:=eq_true c68
       have c68b1:=decide_eq_true c68
       clear c68
       obtain ⟨y108,hy_⟩:∃ y_:List Int,y_ = (x103002_1.take (x86_3:Int).toNat):=⟨_,rfl⟩
       replace H:(spec_tyRead.l2 k3 (rd x103002_1 x86_3) x103002_1 (x103002_1.length:Int) x86_3 y108 (y108.length:Int) 0 x103000_1 x103001_1 x103002_1) = some (r1,r2,r3,r4):=aq5
       have Ny108:=am hy_
       clear hy_
       have H':=am H
       clear H
       have p107:0 ≤ (x86_3:Int):=of_decide_eq_true aq4
       have q107:x86_3 < (x103002_1.length:Int):=of_decide_eq_true aq4
       obtain ⟨ad107,e107,hx107_0⟩:=Kd.at_int (Kd.R_reads' HO_84.out).2.2 x86_3 p107 q107
       cases e107
       replace p107:=eq_true p107
       replace q107:=eq_true q107
       have hnb69:=NB102_101.out
       have hnc69:=NB101_102.out
       obtain ⟨hcz70_0,hcz70_1,hcz70_2,hfz70_0,hfz70_1,hfz70_2⟩:=blk3_ BK102.out
       have q71:(x86_3:Int) ≤ ((x103002_1.length:Int):Int):=of_decide_eq_true aq4
       obtain ⟨i071,hi071,_,hsz71,_⟩:=info_parts info5
       have hroom71:x103002_1.length ≤ co63:=(Kd.R_reads' HO_103002.out).2.1
       have hC71:Kd.C (Kd.int .u8) _ (some ad107) x103002_1.length x103002_1:=(Kd.R_reads' HO_103002.out).2.2
       have hcut71:=cut_to (P:=Tryz.prog) 63 5 .i64 Tryz.underlying63 hi071 (some ad107) x103002_1.length co63 x86_3 (of_decide_eq_true aq4) q71 hroom71
       have hr71:=Kd.C_take (m:=(x86_3:Int).toNat) hC71 o_m
       have hy71:y108.length = (x86_3:Int).toNat:=(by rw [Ny108.out,List.length_take];omega)
       rw [← Ny108.out] at hr71
       rw [← hy71] at hcut71
       have HR111:=am hr71
       have HC111:=am (show y108.length ≤ co63 from by omega)
       clear hr71 hC71 hroom71 hi071 hsz71
       have KY71:=am hy71
       clear hy71
       have KL71:=am (show (x86_3:Int).toNat ≤ x103002_1.length from by omega)
       replace q71:=eq_true q71
       go_wp2
       go_loopg [96] k3 (fun kq v96 w'=>∃ (x96_4:Int) (x102000_4:Int) (x102001_4:Int),v96 = .int .i64 x96_4 ∧ Aside0 (spec_tyRead.l2 kq (rd x103002_1 x86_3) x103002_1 (x103002_1.length:Int) x86_3 y108 (y108.length:Int) x96_4 x103000_1 x103001_1 x103002_1 = some (r1,r2,r3,r4)) ∧ Aside0 (kq ≤ k3) ∧ Aside0 (Kd.R (Kd.int .u8) 5 w' w.heap.size (fun _=>True) (.slice (some ad107) x103002_1.length co63) x103002_1) ∧ Aside0 (Kd.R (Kd.int .u8) 5 w' w.heap.size (fun _=>True) (.slice (some ad107) x103002_1.length co63) x103002_1) ∧ Aside0 (w'.heap[gb101]? = some (.cells #[.int .i64 x102000_4,.int .i64 x102001_4,(.slice none 0 0)] 75 (0,0))) ∧ Aside0 (w'.heap[gb102]? = some (.cells #[.int .i64 x103000_1,.int .i64 x103001_1,(.slice (some ad107) x103002_1.length co63)] 75 (0,0))) ∧ Aside0 (Kd.C (Kd.int .u8) w' (some ad107) y108.length y108) ∧ Aside0 (Below w.heap.size w w'))
       case atStart=>exact ⟨(0),(x102000_3),(x102001_3),aq7,H',⟨Nat.le_refl _⟩,⟨aq57⟩,⟨aq26⟩,⟨aq1⟩,⟨aq9⟩,⟨aq50⟩,⟨aq3⟩⟩
       case round =>
        clear H'
        try clear c1
        try clear p1
        try clear q1
        try clear hx1
        try clear c2
        try clear c2b0
        try clear c2b1
        try clear p2
        try clear q2
        try clear hx2
        try clear c3
        try clear c4
        try clear c5
        try clear c6
        try clear p6
        try clear q7
        try clear c9
        try clear c10
        try clear p10
        try clear q10
        try clear hx10
        try clear c12
        try clear c12b0
        try clear c14
        try clear c14b0
        try clear c15
        try clear c15b0
        try clear p16
        try clear q16
        try clear hx16
        try clear c17
        try clear c18
        try clear c18b0
        try clear c19
        try clear c19b0
        try clear p20
        try clear q20
        try clear hx20
        try clear c22
        try clear p23
        try clear q23
        try clear hx23
        try clear c24
        try clear c29
        try clear c31
        try clear c31b0
        try clear c32
        try clear c32b0
        try clear c32b1
        try clear c33
        try clear c33b0
        try clear c33b1
        try clear c34
        try clear c37
        try clear c39
        try clear c42
        try clear c42b0
        try clear c42b1
        try clear c43
        try clear c46
        try clear c49
        try clear c49b0
        try clear c50
        try clear c52
        try clear c52b0
        try clear c53
        try clear c55
        try clear c58
        try clear c59
        try clear c61
        try clear c64
        try clear c64b0
        try clear p64
        try clear c65
        try clear c65b0
        try clear c66
        try clear c66b0
        try clear c67
        try clear c67b0
        try clear c68
        try clear c68b0
        try clear c68b1
        try clear c69
        try clear q71
        try clear hcz11_0
        try clear hcz11_1
        try clear hcz11_2
        try clear hcz30_0
        try clear hcz30_1
        try clear hcz30_2
        try clear hcz35_0
        try clear hcz35_1
        try clear hcz35_2
        try clear hcz36_0
        try clear hcz36_1
        try clear hcz36_2
        try clear hcz38_0
        try clear hcz38_1
        try clear hcz38_2
        try clear hcz40_0
        try clear hcz40_1
        try clear hcz40_2
        try clear hcz41_0
        try clear hcz41_1
        try clear hcz41_2
        try clear hcz44_0
        try clear hcz44_1
        try clear hcz44_2
        try clear hcz45_0
        try clear hcz45_1
        try clear hcz45_2
        try clear hcz47_0
        try clear hcz47_1
        try clear hcz47_2
        try clear hcz51_0
        try clear hcz51_1
        try clear hcz51_2
        try clear hcz54_0
        try clear hcz54_1
        try clear hcz54_2
        try clear hcz56_0
        try clear hcz56_1
        try clear hcz56_2
        try clear hcz60_0
        try clear hcz60_1
        try clear hcz60_2
        try clear hcz62_0
        try clear hcz62_1
        try clear hcz62_2
        try clear hcz6_0
        try clear hcz6_1
        try clear hcz6_2
        try clear hcz70_0
        try clear hcz70_1
        try clear hcz70_2
        try clear hcz7_0
        try clear hcz7_1
        try clear hcz7_2
        try clear hfz11_0
        try clear hfz11_1
        try clear hfz11_2
        try clear hfz30_0
        try clear hfz30_1
        try clear hfz30_2
        try clear hfz35_0
        try clear hfz35_1
        try clear hfz35_2
        try clear hfz36_0
        try clear hfz36_1
        try clear hfz36_2
        try clear hfz38_0
        try clear hfz38_1
        try clear hfz38_2
        try clear hfz40_0
        try clear hfz40_1
        try clear hfz40_2
        try clear hfz41_0
        try clear hfz41_1
        try clear hfz41_2
        try clear hfz44_0
        try clear hfz44_1
        try clear hfz44_2
        try clear hfz45_0
        try clear hfz45_1
        try clear hfz45_2
        try clear hfz47_0
        try clear hfz47_1
        try clear hfz47_2
        try clear hfz51_0
        try clear hfz51_1
        try clear hfz51_2
        try clear hfz54_0
        try clear hfz54_1
        try clear hfz54_2
        try clear hfz56_0
        try clear hfz56_1
        try clear hfz56_2
        try clear hfz60_0
        try clear hfz60_1
        try clear hfz60_2
        try clear hfz62_0
        try clear hfz62_1
        try clear hfz62_2
        try clear hfz6_0
        try clear hfz6_1
        try clear hfz6_2
        try clear hfz70_0
        try clear hfz70_1
        try clear hfz70_2
        try clear hfz7_0
        try clear hfz7_1
        try clear hfz7_2
        try clear hx107_0
        try clear p1
        try clear p107
        try clear p16
        try clear p2
        try clear p20
        try clear p23
        try clear p6
        try clear q1
        try clear q107
        try clear q16
        try clear q2
        try clear q20
        try clear q23
        try clear q71
        obtain ⟨x96_4,x102000_4,x102001_4,rfl,HA,HK4,HO_84,HO_103002,BK101,BK102,HR111,HB⟩:=hrel
        cases gk with
        | zero=>exact absurd HA.out (by simp [spec_tyRead.l2])
        | succ k4 =>
         have H:=HA.out
         clear HA
         simp only [spec_tyRead.l2] at H
         by_cases c72:x96_4 < (y108.length:Int)
         rotate_left
         ·rw [if_neg c72] at H
          have c72b0:=decide_eq_false c72
          clear c72
          have H':=am H
          clear H
          go_wp2
          go_roundg k4
          case measure=>have:=HK1.out;have:=HJ47.out;have:=HK3.out;have:=HK4.out;omega
          case rel=>exact ⟨(wrap64 (x86_3 + 1)),(x102000_4),(x102001_4),aq7,H',⟨aq82⟩,⟨aq57⟩,⟨aq26⟩,⟨aq1⟩,⟨aq9⟩,⟨aq3⟩⟩
         rw [if_pos c72] at H
         have c72b0:=decide_eq_true c72
         clear c72
         replace H:=gd H
         obtain ⟨c73,H⟩:=H
         have c73b0:=decide_eq_true c73
         clear c73
         replace H:=gd H
         obtain ⟨c74,H⟩:=H
         have c74b0:=decide_eq_true c74
         clear c74
         by_cases c75:(rd x103002_1 x86_3) = (rd y108 x96_4)
         rotate_left
         ·rw [if_neg c75] at H
          have c75b0:=beq_eq_false_iff_ne.mpr c75
          have c75b1:=bne_iff_ne.mpr c75
          have H':=am H
          clear H
          have p112:0 ≤ (x96_4:Int):=of_decide_eq_true aq4
          have q112:x96_4 < (y108.length:Int):=of_decide_eq_true aq4
          obtain ⟨ad112,e112,hx112_0⟩:=Kd.at_int HR111.out x96_4 p112 q112
          obtain rfl:ad107 = ad112:=(by injection e112)
          try replace hx112_0:=(HB.out.cell (World.block_lt_of_cell? w _ hx112_0)).trans hx112_0
          replace p112:=eq_true p112
          replace q112:=eq_true q112
          go_wp2
          go_roundg k4
          case measure=>have:=HK1.out;have:=HJ47.out;have:=HK3.out;have:=HK4.out;omega
          case rel=>exact ⟨(wrap64 (x96_4 + 1)),(x102000_4),(x102001_4),aq7,H',⟨aq82⟩,⟨aq57⟩,⟨aq26⟩,⟨aq1⟩,⟨aq9⟩,⟨aq50⟩,⟨aq3⟩⟩
         rw [if_pos c75] at H
         have c75b0:=beq_iff_eq.mpr c75
         have c75b1:=bne_eq_false_iff_eq.mpr c75
         clear c75
         by_cases c76:(rd x103002_1 x86_3) ≥ 97
         rotate_left
         ·rw [if_neg c76] at H
          have c76b0:=decide_eq_false c76
          clear c76
          have H':=am H
          clear H
          have p112:0 ≤ (x96_4:Int):=of_decide_eq_true aq4
          have q112:x96_4 < (y108.length:Int):=of_decide_eq_true aq4
          obtain ⟨ad112,e112,hx112_0⟩:=Kd.at_int HR111.out x96_4 p112 q112
          obtain rfl:ad107 = ad112:=(by injection e112)
          try replace hx112_0:=(HB.out.cell (World.block_lt_of_cell? w _ hx112_0)).trans hx112_0
          replace p112:=eq_true p112
          replace q112:=eq_true q112
          go_wp2
          go_roundg k4
          case measure=>have:=HK1.out;have:=HJ47.out;have:=HK3.out;have:=HK4.out;omega
          case rel=>exact ⟨(wrap64 (x96_4 + 1)),(x102000_4),(x102001_4),aq7,H',⟨aq82⟩,⟨aq57⟩,⟨aq26⟩,⟨aq1⟩,⟨aq9⟩,⟨aq50⟩,⟨aq3⟩⟩
         rw [if_pos c76] at H
         have c76b0:=decide_eq_true c76
         clear c76
         by_cases c77:(rd x103002_1 x86_3) ≤ 102
         rotate_left
         ·rw [if_neg c77] at H
          have c77b0:=decide_eq_false c77
          clear c77
          have H':=am H
          clear H
          have p112:0 ≤ (x96_4:Int):=of_decide_eq_true aq4
          have q112:x96_4 < (y108.length:Int):=of_decide_eq_true aq4
          obtain ⟨ad112,e112,hx112_0⟩:=Kd.at_int HR111.out x96_4 p112 q112
          obtain rfl:ad107 = ad112:=(by injection e112)
          try replace hx112_0:=(HB.out.cell (World.block_lt_of_cell? w _ hx112_0)).trans hx112_0
          replace p112:=eq_true p112
          replace q112:=eq_true q112
          go_wp2
          go_roundg k4
          case measure=>have:=HK1.out;have:=HJ47.out;have:=HK3.out;have:=HK4.out;omega
          case rel=>exact ⟨(wrap64 (x96_4 + 1)),(x102000_4),(x102001_4),aq7,H',⟨aq82⟩,⟨aq57⟩,⟨aq26⟩,⟨aq1⟩,⟨aq9⟩,⟨aq50⟩,⟨aq3⟩⟩
         rw [if_pos c77] at H
         have c77b0:=decide_eq_true c77
         clear c77
         simp only [Option.some.injEq,Prod.mk.injEq] at H
         obtain ⟨rfl,rfl,rfl,rfl⟩:=H
         have p112:0 ≤ (x96_4:Int):=of_decide_eq_true aq4
         have q112:x96_4 < (y108.length:Int):=of_decide_eq_true aq4
         obtain ⟨ad112,e112,hx112_0⟩:=Kd.at_int HR111.out x96_4 p112 q112
         obtain rfl:ad107 = ad112:=(by injection e112)
         try replace hx112_0:=(HB.out.cell (World.block_lt_of_cell? w _ hx112_0)).trans hx112_0
         replace p112:=eq_true p112
         replace q112:=eq_true q112
         have hnb78:=NB101_102.out
         have hnc78:=NB102_101.out
         obtain ⟨hcz79_0,hcz79_1,hcz79_2,hfz79_0,hfz79_1,hfz79_2⟩:=blk3_ BK101.out
         go_wp2
         refine bodyPost_ret (results_ct rfl _ _ gb101 75 #[.int .i64 0,.int .i64 0,.slice none 0 0] (0,0) _ rfl (by (with_reducible repeat (first | refine blk_drewN ?_ _ | refine blk_drew ?_ | refine blk_alloc ?_ _));refine blk_put (cs:=#[.int .i64 0,.int .i64 0,.slice none 0 0]) ?_ 2 _ rfl;(with_reducible repeat (first | refine blk_drewN ?_ _ | refine blk_drew ?_ | refine blk_alloc ?_ _));refine blk_put (cs:=#[.int .i64 0,.int .i64 x102001_4,.slice none 0 0]) ?_ 1 _ rfl;(with_reducible repeat (first | refine blk_drewN ?_ _ | refine blk_drew ?_ | refine blk_alloc ?_ _));refine blk_put (cs:=#[.int .i64 x102000_4,.int .i64 x102001_4,.slice none 0 0]) ?_ 0 _ rfl;(with_reducible repeat (first | refine blk_drewN ?_ _ | refine blk_drew ?_ | refine blk_alloc ?_ _));exact BK101.out) Tryz.underlying75 rfl k_r) rfl ?_
         exact ⟨_,aq8,aq23,aq3⟩
def impl_within.f (a0:Int) (a1:Int) (a2:Int):Option (Bool):=if a1 ≤ a0 then (some (decide (a0 ≤ a2))) else (some false)
theorem impl_within.calls (a0:Int) (a1:Int) (a2:Int) (r:Bool) (w:World) (h:impl_within.f a0 a1 a2 = some r) :
  Calls Tryz.prog 70 #[.int .i64 a0,.int .i64 a1,.int .i64 a2] w fun e w'=>e = .returned (.bool r) ∧ Drawn0 w w':=by
 have H:(if a1 ≤ a0 then (some (decide (a0 ≤ a2))) else (some false)) = some r:=h
 clear h
 by_cases c4:a1 ≤ a0
 rotate_left
 ·rw [if_neg c4] at H
  have c4b0:=decide_eq_false c4
  clear c4
  obtain rfl:=Option.some.inj H
  go_enter Tryz.func70,Tryz.ntmps70
  go_wp2
  go_ret
  exact ⟨aq7,aq20⟩
 rw [if_pos c4] at H
 have c4b0:=decide_eq_true c4
 clear c4
 obtain rfl:=Option.some.inj H
 go_enter Tryz.func70,Tryz.ntmps70
 go_wp2
 go_ret
 exact ⟨aq7,aq20⟩
def impl_isSize.f (a0:Int) (a1:Int):Option (Bool):=(impl_within.f a0 1 7).bind fun t101=>(if t101 = true then ((impl_within.f a1 1 7).bind fun t102=>(if t102 = true then (some (decide ((wrap64 (a0 * a1)) ≤ 36))) else (some false))) else (some false))
theorem impl_isSize.calls (a0:Int) (a1:Int) (r:Bool) (w:World) (h:impl_isSize.f a0 a1 = some r) :
  Calls Tryz.prog 121 #[.int .i64 a0,.int .i64 a1] w fun e w'=>e = .returned (.bool r) ∧ Drawn0 w w':=by
 have H:((impl_within.f a0 1 7).bind fun t101=>(if t101 = true then ((impl_within.f a1 1 7).bind fun t102=>(if t102 = true then (some (decide ((wrap64 (a0 * a1)) ≤ 36))) else (some false))) else (some false))) = some r:=h
 clear h
 obtain ⟨t101,A3,H⟩:=bn H
 by_cases c4:t101 = true
 rotate_left
 ·replace c4:=Bool.eq_false_iff.mpr c4
  subst c4
  rw [if_neg Bool.false_ne_true] at H
  obtain rfl:=Option.some.inj H
  go_enter Tryz.func121,Tryz.ntmps121
  go_wp2_with (first | ((with_reducible refine gate_callee (f:=70) rfl ?_);refine goesL_ (some 6) rfl rfl Tryz.func70 k_r rfl #[.int .i64 a0,.int .i64 1,.int .i64 7] rfl aq6 ?_;(with_reducible refine (impl_within.calls a0 1 7 false _ A3.out).mono ?_);rintro e w' ⟨rfl,⟨nd,rfl⟩⟩;refine ⟨_,rfl,?_⟩))
  go_ret
  exact ⟨aq7,aq20⟩
 subst c4
 rw [if_pos rfl] at H
 obtain ⟨t102,A5,H⟩:=bn H
 by_cases c6:t102 = true
 ·subst c6
  rw [if_pos rfl] at H
  obtain rfl:=Option.some.inj H
  go_enter Tryz.func121,Tryz.ntmps121
  go_wp2_with (first | ((with_reducible refine gate_callee (f:=70) rfl ?_);refine goesL_ (some 6) rfl rfl Tryz.func70 k_r rfl #[.int .i64 a0,.int .i64 1,.int .i64 7] rfl aq6 ?_;(with_reducible refine (impl_within.calls a0 1 7 true _ A3.out).mono ?_);rintro e w' ⟨rfl,⟨nd,rfl⟩⟩;refine ⟨_,rfl,?_⟩) | (go_at_call 70;(with_reducible refine (impl_within.calls a1 1 7 true _ A5.out).mono ?_);rintro e w' ⟨rfl,⟨nd,rfl⟩⟩))
  go_ret
  exact ⟨aq7,aq20⟩
 replace c6:=Bool.eq_false_iff.mpr c6
 subst c6
 rw [if_neg Bool.false_ne_true] at H
 obtain rfl:=Option.some.inj H
 go_enter Tryz.func121,Tryz.ntmps121
 go_wp2_with (first | ((with_reducible refine gate_callee (f:=70) rfl ?_);refine goesL_ (some 6) rfl rfl Tryz.func70 k_r rfl #[.int .i64 a0,.int .i64 1,.int .i64 7] rfl aq6 ?_;(with_reducible refine (impl_within.calls a0 1 7 true _ A3.out).mono ?_);rintro e w' ⟨rfl,⟨nd,rfl⟩⟩;refine ⟨_,rfl,?_⟩) | (go_at_call 70;(with_reducible refine (impl_within.calls a1 1 7 false _ A5.out).mono ?_);rintro e w' ⟨rfl,⟨nd,rfl⟩⟩))
 go_ret
 exact ⟨aq7,aq20⟩
mutual
def impl_IsTray.l0:Nat → ByteArray → List ByteArray → List ByteArray → Int → Int → Option (Bool)
 | 0,_,_,_,_,_=>none
 | k + 1,x0,x3,x17,x18,x19=>if x19 < x18 then (if 0 ≤ x19 then (if x19 < (x17.length:Int) then (if 0 < (x3.length:Int) then (if ((rdOf ByteArray.empty x17 x19).size:Int) = ((rdOf ByteArray.empty x3 0).size:Int) then ((strings_Trim.f (rdOf ByteArray.empty x17 x19) (⟨#[35,46,111,97,98,99,100,101,102]⟩:ByteArray)).bind fun t108=>(if t108.toList = ([]:List UInt8) then (impl_IsTray.l0 k x0 x3 x17 x18 (wrap64 (x19 + 1))) else (some false))) else (some false)) else (none)) else (none)) else (none)) else (impl_IsTray.l1 k x0 97)
def impl_IsTray.l1:Nat → ByteArray → Int → Option (Bool)
 | 0,_,_=>none
 | k + 1,x0,x6=>if x6 ≤ 102 then ((strings_Count.f x0 (Utf8.encode x6)).bind fun t109=>(if t109 > 1 then (some false) else (impl_IsTray.l1 k x0 (wrap32 (x6 + 1))))) else (some true)
end
def impl_IsTray.f (k:Nat) (a0:ByteArray):Option (Bool):=(strings_Split.f a0 (⟨#[47]⟩:ByteArray)).bind fun t101=>(if 0 < (t101.length:Int) then ((impl_isSize.f ((rdOf ByteArray.empty t101 0).size:Int) (t101.length:Int)).bind fun t105=>(if t105 = true then (impl_IsTray.l0 k a0 t101 t101 (t101.length:Int) 0) else (some false))) else (none))
theorem impl_IsTray.mono_l:∀ k,(∀ y0 y1 y2 y3 y4,LeO (impl_IsTray.l0 k y0 y1 y2 y3 y4) (impl_IsTray.l0 (k + 1) y0 y1 y2 y3 y4)) ∧ (∀ y0 y1,LeO (impl_IsTray.l1 k y0 y1) (impl_IsTray.l1 (k + 1) y0 y1))
 | 0=>⟨fun _ _ _ _ _ r h=>by simp [impl_IsTray.l0] at h,fun _ _ r h=>by simp [impl_IsTray.l1] at h⟩
 | k + 1=>by
  obtain ⟨ih0,ih1⟩:=impl_IsTray.mono_l k
  refine ⟨?_,?_⟩
  ·intro y0 y1 y2 y3 y4
   unfold impl_IsTray.l0
   exact mo
  ·intro y0 y1
   unfold impl_IsTray.l1
   exact mo
theorem impl_IsTray.mono:∀ a0 k,LeO (impl_IsTray.f k a0) (impl_IsTray.f (k + 1) a0):=by
 intro a0 k
 obtain ⟨ih0,ih1⟩:=impl_IsTray.mono_l k
 unfold impl_IsTray.f
 exact mo
theorem impl_IsTray.calls (k:Nat) (a0:ByteArray) (r:Bool) (w:World) (h:impl_IsTray.f k a0 = some r) :
  Calls Tryz.prog 102 #[.string a0] w fun e w'=>e = .returned (.bool r) ∧ Below w.heap.size w w':=by
 have HB:=am (Below.refl w.heap.size w)
 have H:((strings_Split.f a0 (⟨#[47]⟩:ByteArray)).bind fun t101=>(if 0 < (t101.length:Int) then ((impl_isSize.f ((rdOf ByteArray.empty t101 0).size:Int) (t101.length:Int)).bind fun t105=>(if t105 = true then (impl_IsTray.l0 k a0 t101 t101 (t101.length:Int) 0) else (some false))) else (none))) = some r:=h
 clear h
 obtain ⟨t101,A2,H⟩:=bn H
 replace H:=gd H
 obtain ⟨c3,H⟩:=H
 have c3b0:=decide_eq_true c3
 have c3b1:decide (0 < t101.length) = true:=decide_eq_true o_m
 clear c3
 obtain ⟨t105,A4,H⟩:=bn H
 by_cases c5:t105 = true
 rotate_left
 ·replace c5:=Bool.eq_false_iff.mpr c5
  subst c5
  rw [if_neg Bool.false_ne_true] at H
  obtain rfl:=Option.some.inj H
  go_enter Tryz.func102,Tryz.ntmps102
  go_wp2_with (first | ((with_reducible refine gate_callee (f:=90) rfl ?_);refine goesL_ (some 8) rfl rfl Tryz.func90 k_r rfl #[.string a0,.string (⟨#[47]⟩:ByteArray)] rfl aq6 ?_;(with_reducible refine (strings_Split.calls a0 (⟨#[47]⟩:ByteArray) t101 _ A2.out).mono ?_);rintro e w20 ⟨v102,rfl,ho0,hb⟩;refine ⟨_,rfl,?_⟩;have HO103:=am (Kd.R_lower ho0 (below_size aq2));replace HB:=am (below_step aq2 hb);(try clear hb);(try clear ho0);obtain ⟨Ao21,co21,eo21⟩:=Kd.R_slice HO103.out;subst eo21;have p104:0 ≤ (0:Int):=o_m;have q104:0 < (t101.length:Int):=of_decide_eq_true aq4;obtain ⟨ad104,e104,hx104_0⟩:=Kd.at_string (Kd.R_reads' HO103.out).2.2 0 p104 q104;cases e104;have qi104:(0 < t101.length) = True:=eq_true o_m;(try rw [show ((0:Int)).toNat = 0 from rfl] at hx104_0);(try rw [Addr.add_zero'] at hx104_0);replace p104:=eq_true p104;replace q104:=eq_true q104) | ((with_reducible refine gate_callee (f:=121) rfl ?_);refine goesL_ (some 15) rfl rfl Tryz.func121 k_r rfl #[.int .i64 ((rdOf ByteArray.empty t101 0).size:Int),.int .i64 (t101.length:Int)] rfl aq6 ?_;(with_reducible refine (impl_isSize.calls ((rdOf ByteArray.empty t101 0).size:Int) (t101.length:Int) false _ A4.out).mono ?_);rintro e w' ⟨rfl,⟨nd,rfl⟩⟩;refine ⟨_,rfl,?_⟩))
  go_ret
  exact ⟨aq8,aq2⟩
 subst c5
 rw [if_pos rfl] at H
 have H':=am H
 clear H
 go_enter Tryz.func102,Tryz.ntmps102
 go_wp2_with (first | ((with_reducible refine gate_callee (f:=90) rfl ?_);refine goesL_ (some 8) rfl rfl Tryz.func90 k_r rfl #[.string a0,.string (⟨#[47]⟩:ByteArray)] rfl aq6 ?_;(with_reducible refine (strings_Split.calls a0 (⟨#[47]⟩:ByteArray) t101 _ A2.out).mono ?_);rintro e w6 ⟨v102,rfl,ho0,hb⟩;refine ⟨_,rfl,?_⟩;have HO103:=am (Kd.R_lower ho0 (below_size aq2));replace HB:=am (below_step aq2 hb);(try clear hb);(try clear ho0);obtain ⟨Ao7,co7,eo7⟩:=Kd.R_slice HO103.out;subst eo7;have p104:0 ≤ (0:Int):=o_m;have q104:0 < (t101.length:Int):=of_decide_eq_true aq4;obtain ⟨ad104,e104,hx104_0⟩:=Kd.at_string (Kd.R_reads' HO103.out).2.2 0 p104 q104;cases e104;have qi104:(0 < t101.length) = True:=eq_true o_m;(try rw [show ((0:Int)).toNat = 0 from rfl] at hx104_0);(try rw [Addr.add_zero'] at hx104_0);replace p104:=eq_true p104;replace q104:=eq_true q104) | ((with_reducible refine gate_callee (f:=121) rfl ?_);refine goesL_ (some 15) rfl rfl Tryz.func121 k_r rfl #[.int .i64 ((rdOf ByteArray.empty t101 0).size:Int),.int .i64 (t101.length:Int)] rfl aq6 ?_;(with_reducible refine (impl_isSize.calls ((rdOf ByteArray.empty t101 0).size:Int) (t101.length:Int) true _ A4.out).mono ?_);rintro e w' ⟨rfl,⟨nd,rfl⟩⟩;refine ⟨_,rfl,?_⟩))
 go_loopg [19] k (fun kq v19 w'=>∃ (x19_1:Int),v19 = .int .i64 x19_1 ∧ Aside0 (impl_IsTray.l0 kq a0 t101 t101 (t101.length:Int) x19_1 = some r) ∧ Aside0 (kq ≤ k) ∧ Aside0 (Kd.R Kd.string 9 w' w.heap.size (fun _=>True) (.slice (some ad104) t101.length co7) t101) ∧ Aside0 (Kd.R Kd.string 9 w' w.heap.size (fun _=>True) (.slice (some ad104) t101.length co7) t101) ∧ Aside0 (Below w.heap.size w w'))
 case atStart=>exact ⟨(0),aq7,H',⟨Nat.le_refl _⟩,⟨by (with_reducible repeat (first | apply Kd.R_alloc | apply Kd.R_drewN | apply Kd.R_drew));exact HO103.out⟩,⟨by (with_reducible repeat (first | apply Kd.R_alloc | apply Kd.R_drewN | apply Kd.R_drew));exact HO103.out⟩,⟨aq2⟩⟩
 case round =>
  clear H'
  try clear c1
  try clear p1
  try clear q1
  try clear hx1
  try clear qi1
  try clear p2
  try clear c3
  try clear c3b0
  try clear c3b1
  try clear c5
  try clear hx104_0
  try clear p104
  try clear q104
  obtain ⟨x19_1,rfl,HA,HK1,HO_3,HO_17,HB⟩:=hrel
  cases gk with
  | zero=>exact absurd HA.out (by simp [impl_IsTray.l0])
  | succ k1 =>
   have H:=HA.out
   clear HA
   simp only [impl_IsTray.l0] at H
   by_cases c8:x19_1 < (t101.length:Int)
   rotate_left
   ·rw [if_neg c8] at H
    have c8b0:=decide_eq_false c8
    clear c8
    have H':=am H
    clear H
    go_wp2
    go_loopg [6] k1 (fun kq v6 w'=>∃ (x6_2:Int),v6 = .int .i32 x6_2 ∧ Aside0 (impl_IsTray.l1 kq a0 x6_2 = some r) ∧ Aside0 (kq ≤ k1) ∧ Aside0 (Below w.heap.size w w'))
    case atStart=>exact ⟨(97),aq7,H',⟨Nat.le_refl _⟩,⟨aq2⟩⟩
    case round =>
     clear H'
     try clear c1
     try clear p1
     try clear q1
     try clear hx1
     try clear qi1
     try clear p2
     try clear c3
     try clear c3b0
     try clear c3b1
     try clear c5
     try clear p6
     try clear c8
     try clear c8b0
     try clear c9
     try clear c9b0
     try clear c10
     try clear c10b0
     try clear p10
     try clear q10
     try clear hx10
     try clear qi10
     try clear c11
     try clear c11b0
     try clear c11b1
     try clear c12
     try clear c12b0
     try clear c12b1
     try clear c12b2
     try clear c14
     try clear c14b0
     try clear c14b1
     try clear hx104_0
     try clear hx106_0
     try clear hx107_0
     try clear p1
     try clear p104
     try clear p106
     try clear p107
     try clear p2
     try clear q1
     try clear q104
     try clear q106
     try clear q107
     obtain ⟨x6_2,rfl,HA,HK2,HB⟩:=hrel
     cases gk with
     | zero=>exact absurd HA.out (by simp [impl_IsTray.l1])
     | succ k2 =>
      have H:=HA.out
      clear HA
      simp only [impl_IsTray.l1] at H
      by_cases c17:x6_2 ≤ 102
      rotate_left
      ·rw [if_neg c17] at H
       have c17b0:=decide_eq_false c17
       clear c17
       obtain rfl:=Option.some.inj H
       go_wp2
       go_ret
       exact ⟨aq8,aq2⟩
      rw [if_pos c17] at H
      have c17b0:=decide_eq_true c17
      clear c17
      obtain ⟨t109,A18,H⟩:=bn H
      by_cases c19:t109 > 1
      ·rw [if_pos c19] at H
       have c19b0:=decide_eq_true c19
       clear c19
       obtain rfl:=Option.some.inj H
       go_wp2_with (first | ((with_reducible refine gate_callee (f:=123) rfl ?_);refine goesL_ (some 43) rfl rfl Tryz.func123 k_r rfl #[.string a0,.string (Utf8.encode x6_2)] rfl aq6 ?_;(with_reducible refine (strings_Count.calls a0 (Utf8.encode x6_2) t109 _ A18.out).mono ?_);rintro e w' ⟨rfl,⟨nd,rfl⟩⟩;refine ⟨_,rfl,?_⟩))
       go_ret
       exact ⟨aq8,aq2⟩
      rw [if_neg c19] at H
      have c19b0:=decide_eq_false c19
      clear c19
      have H':=am H
      clear H
      go_wp2_with (first | ((with_reducible refine gate_callee (f:=123) rfl ?_);refine goesL_ (some 43) rfl rfl Tryz.func123 k_r rfl #[.string a0,.string (Utf8.encode x6_2)] rfl aq6 ?_;(with_reducible refine (strings_Count.calls a0 (Utf8.encode x6_2) t109 _ A18.out).mono ?_);rintro e w' ⟨rfl,⟨nd,rfl⟩⟩;refine ⟨_,rfl,?_⟩))
      go_roundg k2
      case measure=>have:=HK1.out;have:=HK2.out;omega
      case rel=>exact ⟨(wrap32 (x6_2 + 1)),aq7,H',⟨aq75⟩,⟨aq2⟩⟩
   rw [if_pos c8] at H
   have c8b0:=decide_eq_true c8
   clear c8
   replace H:=gd H
   obtain ⟨c9,H⟩:=H
   have c9b0:=decide_eq_true c9
   clear c9
   replace H:=gd H
   obtain ⟨c10,H⟩:=H
   have c10b0:=decide_eq_true c10
   clear c10
   replace H:=gd H
   obtain ⟨c11,H⟩:=H
   have c11b0:=decide_eq_true c11
   have c11b1:decide (0 < t101.length) = true:=decide_eq_true o_m
   clear c11
   by_cases c12:((rdOf ByteArray.empty t101 x19_1).size:Int) = ((rdOf ByteArray.empty t101 0).size:Int)
   rotate_left
   ·rw [if_neg c12] at H
    have c12b0:=beq_eq_false_iff_ne.mpr c12
    have c12b1:=bne_iff_ne.mpr c12
    have c12b2:((rdOf ByteArray.empty t101 x19_1).size == (rdOf ByteArray.empty t101 0).size) = false:=by first | simpa using c12 | (simp at c12 ⊢;omega)
    obtain rfl:=Option.some.inj H
    have p106:0 ≤ (x19_1:Int):=of_decide_eq_true aq4
    have q106:x19_1 < (t101.length:Int):=of_decide_eq_true aq4
    obtain ⟨ad106,e106,hx106_0⟩:=Kd.at_string (Kd.R_reads' HO_17.out).2.2 x19_1 p106 q106
    obtain rfl:ad104 = ad106:=(by injection e106)
    replace p106:=eq_true p106
    replace q106:=eq_true q106
    have p107:0 ≤ (0:Int):=o_m
    have q107:0 < (t101.length:Int):=of_decide_eq_true aq4
    obtain ⟨ad107,e107,hx107_0⟩:=Kd.at_string (Kd.R_reads' HO_3.out).2.2 0 p107 q107
    obtain rfl:ad104 = ad107:=(by injection e107)
    have qi107:(0 < t101.length) = True:=eq_true o_m
    (try rw [show ((0:Int)).toNat = 0 from rfl] at hx107_0)
    (try rw [Addr.add_zero'] at hx107_0)
    replace p107:=eq_true p107
    replace q107:=eq_true q107
    go_wp2
    go_ret
    exact ⟨aq8,aq2⟩
   rw [if_pos c12] at H
   have c12b0:=beq_iff_eq.mpr c12
   have c12b1:=bne_eq_false_iff_eq.mpr c12
   have c12b2:((rdOf ByteArray.empty t101 x19_1).size == (rdOf ByteArray.empty t101 0).size) = true:=by first | simpa using c12 | (simp at c12 ⊢;omega)
   clear c12
   obtain ⟨t108,A13,H⟩:=bn H
   by_cases c14:t108.toList = ([]:List UInt8)
   rotate_left
   ·rw [if_neg c14] at H
    have c14b0:=beq_eq_false_iff_ne.mpr c14
    have c14b1:=bne_iff_ne.mpr c14
    obtain rfl:=Option.some.inj H
    have p106:0 ≤ (x19_1:Int):=of_decide_eq_true aq4
    have q106:x19_1 < (t101.length:Int):=of_decide_eq_true aq4
    obtain ⟨ad106,e106,hx106_0⟩:=Kd.at_string (Kd.R_reads' HO_17.out).2.2 x19_1 p106 q106
    obtain rfl:ad104 = ad106:=(by injection e106)
    replace p106:=eq_true p106
    replace q106:=eq_true q106
    have p107:0 ≤ (0:Int):=o_m
    have q107:0 < (t101.length:Int):=of_decide_eq_true aq4
    obtain ⟨ad107,e107,hx107_0⟩:=Kd.at_string (Kd.R_reads' HO_3.out).2.2 0 p107 q107
    obtain rfl:ad104 = ad107:=(by injection e107)
    have qi107:(0 < t101.length) = True:=eq_true o_m
    (try rw [show ((0:Int)).toNat = 0 from rfl] at hx107_0)
    (try rw [Addr.add_zero'] at hx107_0)
    replace p107:=eq_true p107
    replace q107:=eq_true q107
    go_wp2_with (first | (go_at_call 122;(with_reducible refine (strings_Trim.calls (rdOf ByteArray.empty t101 x19_1) (⟨#[35,46,111,97,98,99,100,101,102]⟩:ByteArray) t108 _ A13.out).mono ?_);rintro e w16 ⟨rfl,hb⟩;replace HO_3:=am (Kd.R_below aq73 hb);replace HO_17:=am (Kd.R_below aq87 hb);replace HB:=am (below_step aq2 hb);(try clear hb)))
    go_ret
    exact ⟨aq8,aq2⟩
   rw [if_pos c14] at H
   have c14b0:=beq_iff_eq.mpr c14
   have c14b1:=bne_eq_false_iff_eq.mpr c14
   clear c14
   have H':=am H
   clear H
   have p106:0 ≤ (x19_1:Int):=of_decide_eq_true aq4
   have q106:x19_1 < (t101.length:Int):=of_decide_eq_true aq4
   obtain ⟨ad106,e106,hx106_0⟩:=Kd.at_string (Kd.R_reads' HO_17.out).2.2 x19_1 p106 q106
   obtain rfl:ad104 = ad106:=(by injection e106)
   replace p106:=eq_true p106
   replace q106:=eq_true q106
   have p107:0 ≤ (0:Int):=o_m
   have q107:0 < (t101.length:Int):=of_decide_eq_true aq4
   obtain ⟨ad107,e107,hx107_0⟩:=Kd.at_string (Kd.R_reads' HO_3.out).2.2 0 p107 q107
   obtain rfl:ad104 = ad107:=(by injection e107)
   have qi107:(0 < t101.length) = True:=eq_true o_m
   (try rw [show ((0:Int)).toNat = 0 from rfl] at hx107_0)
   (try rw [Addr.add_zero'] at hx107_0)
   replace p107:=eq_true p107
   replace q107:=eq_true q107
   go_wp2_with (first | (go_at_call 122;(with_reducible refine (strings_Trim.calls (rdOf ByteArray.empty t101 x19_1) (⟨#[35,46,111,97,98,99,100,101,102]⟩:ByteArray) t108 _ A13.out).mono ?_);rintro e w15 ⟨rfl,hb⟩;replace HO_3:=am (Kd.R_below aq73 hb);replace HO_17:=am (Kd.R_below aq87 hb);replace HB:=am (below_step aq2 hb);(try clear hb)))
   go_roundg k1
   case measure=>have:=HK1.out;omega
   case rel=>exact ⟨(wrap64 (x19_1 + 1)),aq7,H',⟨aq70⟩,⟨aq73⟩,⟨aq87⟩,⟨aq2⟩⟩
end Go.Proofs.YtldhkbiomingbaaGreatDoor.F

namespace Go.Proofs.YtldhkbiomingbaaGreatDoor.F
open Go.RowKit Go.Proofs.YtldhkbiomingbaaGreatDoor Go.YW.PrintWords Classical
theorem spec_tyBall_eq (c:Int):spec_tyBall.f c = some (isBallC c):=by
 unfold spec_tyBall.f isBallC isNameC
 by_cases h3:c = 111
 ·simp [h3]
 simp only [if_neg h3]
 by_cases h4:c ≥ 97
 rotate_left
 ·simp [h3,h4]
 simp [h3,h4]
theorem spec_tyIs_eq (c:Int):spec_tyIs.f c = some (isCellC c):=by
 unfold spec_tyIs.f isCellC
 rw [spec_tyBall_eq]
 by_cases h1:c = 35
 ·simp [h1]
 by_cases h2:c = 46
 ·simp [h2]
 simp [h1,h2]
def ansT:Option (Nat × Nat × List Int) → Int × Int × List Int × Bool
 | none=>(0,0,[],false)
 | some (w,h,cs)=>(w,h,cs,true)
def finT (w h:Nat) (cs:List Int):Option (Nat × Nat × List Int):=if w ≤ 7 ∧ h ≤ 7 ∧ cs.length ≤ 36 ∧ namesOk cs then some (w,h,cs) else none
theorem tyRead_l2 (cs:List Int) (hl:cs.length ≤ 100) (w h:Int) (i:Nat) (hi:i < cs.length) (r:Int × Int × List Int × Bool)
  (hk:Ev (fun k=>spec_tyRead.l1 k cs cs.length (i + 1:Nat) w h cs) r):∀ (d j:Nat),j + d = i → 
  Ev (fun k=>spec_tyRead.l2 k (rd cs i) cs cs.length i (cs.take i) ((cs.take i).length:Int) j w h cs)
   (if ∀ m,j ≤ m → m < i → cs.getD m 0 = cs.getD i 0 → isNameC (cs.getD i 0) = false then r else (0,0,[],false)):=by
 have hti:(cs.take i).length = i:=by rw [List.length_take];omega
 intro d
 induction d with
 | zero =>
  intro j hj
  rw [if_pos (by intro m h1 h2;omega)]
  refine Ev.step (f:=fun k=>spec_tyRead.l1 k cs cs.length (i + 1:Nat) w h cs) (fun k=>?_) hk
  rw [spec_tyRead.l2,hti,if_neg o_m,w64 o_m o_m]
  rfl
 | succ d ih =>
  intro j hj
  have hih:=ih (j + 1) o_m
  have hr:rd (cs.take i) j = cs.getD j 0:=by
   unfold rd
   rw [Int.toNat_natCast,List.getD_eq_getElem?_getD,List.getD_eq_getElem?_getD,List.getElem?_take,if_pos o_m]
  have hr2:rd cs i = cs.getD i 0:=by unfold rd;rw [Int.toNat_natCast]
  have hw:wrap64 ((j:Int) + 1) = ((j + 1:Nat):Int):=by rw [w64 o_m o_m];rfl
  by_cases he:cs.getD j 0 = cs.getD i 0
  rotate_left
  ·have hc:(∀ m,j ≤ m → m < i → cs.getD m 0 = cs.getD i 0 → isNameC (cs.getD i 0) = false) ↔ (∀ m,j + 1 ≤ m → m < i → cs.getD m 0 = cs.getD i 0 → isNameC (cs.getD i 0) = false):=by
    constructor
    ·intro hh m h1 h2;exact hh m o_m h2
    ·intro hh m h1 h2 h3
     rcases Nat.lt_or_ge j m with h4 | h4
     ·exact hh m h4 h2 h3
     ·obtain rfl:m = j:=by omega
      exact absurd h3 he
   simp only [hc]
   refine Ev.step (fun k=>?_) hih
   rw [spec_tyRead.l2,hti,if_pos o_m,if_pos o_m,if_pos o_m,hr,hr2,if_neg (fun e=>he e.symm),hw]
  by_cases hn:isNameC (cs.getD i 0) = false
  rotate_left
  ·have hn2:isNameC (cs.getD i 0) = true:=by simpa using hn
   have h3:=(isNameC_iff _).1 hn2
   rw [if_neg (fun hc=>hn (hc j (Nat.le_refl _) o_m he))]
   refine Ev.step (f:=fun k=>some (0,0,[],false)) (fun k=>?_) (Ev.now _)
   rw [spec_tyRead.l2,hti,if_pos o_m,if_pos o_m,if_pos o_m,hr,hr2,if_pos he.symm,if_pos o_m,if_pos o_m]
  have hc:(∀ m,j ≤ m → m < i → cs.getD m 0 = cs.getD i 0 → isNameC (cs.getD i 0) = false):=fun _ _ _ _=>hn
  have hc2:(∀ m,j + 1 ≤ m → m < i → cs.getD m 0 = cs.getD i 0 → isNameC (cs.getD i 0) = false):=fun _ _ _ _=>hn
  rw [if_pos hc]
  rw [if_pos hc2] at hih
  refine Ev.step (fun k=>?_) hih
  rw [spec_tyRead.l2,hti,if_pos o_m,if_pos o_m,if_pos o_m,hr,hr2,if_pos he.symm,hw]
  have:¬ (97 ≤ cs.getD i 0 ∧ cs.getD i 0 ≤ 102):=fun e=>by rw [(isNameC_iff _).2 e] at hn;cases hn
  by_cases h97:cs.getD i 0 ≥ 97
  rotate_left
  ·rw [if_neg h97]
  rw [if_pos h97,if_neg o_m]
theorem tyRead_l1 (cs:List Int) (hl:cs.length ≤ 100) (w h:Nat):∀ (d i:Nat),i + d = cs.length →
  Ev (fun k=>spec_tyRead.l1 k cs cs.length i w h cs)
   (if ∀ m,i ≤ m → m < cs.length → ∀ j,j < m → cs.getD j 0 = cs.getD m 0 → isNameC (cs.getD m 0) = false then (w,h,cs,true) else (0,0,[],false)):=by
 intro d
 induction d with
 | zero =>
  intro i hi
  rw [if_pos (by intro m h1 h2;omega)]
  refine Ev.step (f:=fun k=>some ((w:Int),(h:Int),cs,true)) (fun k=>?_) (Ev.now _)
  rw [spec_tyRead.l1,if_neg o_m]
 | succ d ih =>
  intro i hi
  have h2:=tyRead_l2 cs hl w h i o_m _ (ih (i + 1) o_m) i 0 o_m
  have hc:(if ∀ m,0 ≤ m → m < i → cs.getD m 0 = cs.getD i 0 → isNameC (cs.getD i 0) = false then
    (if ∀ m,i + 1 ≤ m → m < cs.length → ∀ j,j < m → cs.getD j 0 = cs.getD m 0 → isNameC (cs.getD m 0) = false then ((w:Int),(h:Int),cs,true) else (0,0,[],false)) else (0,0,[],false)) =
    (if ∀ m,i ≤ m → m < cs.length → ∀ j,j < m → cs.getD j 0 = cs.getD m 0 → isNameC (cs.getD m 0) = false then ((w:Int),(h:Int),cs,true) else (0,0,[],false)):=by
   by_cases h3:∀ m,i ≤ m → m < cs.length → ∀ j,j < m → cs.getD j 0 = cs.getD m 0 → isNameC (cs.getD m 0) = false
   ·rw [if_pos h3,if_pos (fun m _ hm=>h3 i (Nat.le_refl _) o_m m hm),if_pos (fun m hm=>h3 m o_m)]
   rw [if_neg h3]
   by_cases h4:∀ m,0 ≤ m → m < i → cs.getD m 0 = cs.getD i 0 → isNameC (cs.getD i 0) = false
   rotate_left
   ·rw [if_neg h4]
   rw [if_pos h4,if_neg]
   intro h5
   refine h3 (fun m h6 h7 j h8=>?_)
   rcases Nat.lt_or_ge i m with h9 | h9
   ·exact h5 m h9 h7 j h8
   ·obtain rfl:m = i:=by omega
    exact h4 j (Nat.zero_le _) h8
  rw [hc] at h2
  refine Ev.step (fun k=>?_) h2
  rw [spec_tyRead.l1,if_pos o_m,if_pos o_m,if_pos o_m,if_pos o_m]
  simp only [Option.bind_some,Int.toNat_natCast]
  rfl
theorem tyRead_fin (w h:Nat) (cs:List Int) (hl:cs.length ≤ 100) :
  Ev (fun k=>if (w:Int) > 7 then spec_tyRead.j2 k true w h cs else if (h:Int) > 7 then spec_tyRead.j2 k true w h cs else spec_tyRead.j2 k (decide ((cs.length:Int) > 36)) w h cs) (ansT (finT w h cs)):=by
 have hno:Ev (fun k=>spec_tyRead.j2 k true w h cs) (0,0,[],false):=Ev.step (f:=fun _=>some (0,0,[],false)) (fun k=>by rw [spec_tyRead.j2,if_pos rfl]) (Ev.now _)
 unfold finT
 by_cases h1:(w:Int) > 7
 ·simp only [if_pos h1];rw [if_neg o_m];exact hno
 simp only [if_neg h1]
 by_cases h2:(h:Int) > 7
 ·simp only [if_pos h2];rw [if_neg o_m];exact hno
 simp only [if_neg h2]
 by_cases h3:(cs.length:Int) > 36
 ·simp only [decide_eq_true h3];rw [if_neg o_m];exact hno
 simp only [decide_eq_false h3]
 have h4:=tyRead_l1 cs hl w h cs.length 0 o_m
 have hc:(if ∀ m,0 ≤ m → m < cs.length → ∀ j,j < m → cs.getD j 0 = cs.getD m 0 → isNameC (cs.getD m 0) = false then ((w:Int),(h:Int),cs,true) else (0,0,[],false)) = ansT (if w ≤ 7 ∧ h ≤ 7 ∧ cs.length ≤ 36 ∧ namesOk cs then some (w,h,cs) else none):=by
  unfold namesOk
  by_cases h5:∀ m,m < cs.length → ∀ j,j < m → cs.getD j 0 = cs.getD m 0 → isNameC (cs.getD m 0) = false
  rotate_left
  ·rw [if_neg (fun e=>h5 (fun m=>e m (Nat.zero_le _))),if_neg (fun e=>h5 e.2.2.2)];rfl
  rw [if_pos (fun m _=>h5 m),if_pos ⟨by omega,by omega,by omega,h5⟩];rfl
 rw [hc] at h4
 refine Ev.step (fun k=>?_) h4
 rw [spec_tyRead.j2,if_neg d_c]
 rfl
theorem tyRead_l0 (s:ByteArray) (hs:s.size ≤ 42):∀ (d i x w h:Nat) (cs:List Int),i + d = s.size → x ≤ i → w ≤ i → h ≤ i → cs.length ≤ i →
  Ev (fun k=>spec_tyRead.l0 k s x i w h cs) (ansT ((tyGo ((bytesOf s).drop i) x w h cs).bind fun z=>finT z.1 z.2.1 z.2.2)):=by
 have hno:∀ g:Nat → Option (Int × Int × List Int × Bool),(∀ k,g k = some (0,0,[],false)) → Ev g (0,0,[],false):=fun g hg=>⟨0,fun k _=>hg k⟩
 intro d
 induction d with
 | zero =>
  intro i x w h cs hi hx hw hh hc
  obtain rfl:i = s.size:=by omega
  rw [bytesOf_all,tyGo]
  have hA:∀ k,spec_tyRead.l0 (k + 1) s x s.size w h cs = spec_tyRead.j1 k s x s.size false w h cs:=fun k=>by
   rw [spec_tyRead.l0,if_pos o_m,if_neg o_m]
  refine Ev.step hA ?_
  by_cases hbad:(0 < h ∧ x ≠ w) ∨ x = 0
  rotate_left
  ·rw [if_neg hbad]
   have hfin:=tyRead_fin x (h + 1) cs o_m
   have hB:∀ k,spec_tyRead.j1 (k + 1) s x s.size false w h cs = spec_tyRead.l0 k s 0 (s.size + 1:Nat) x (h + 1:Nat) cs:=fun k=>by
    rw [spec_tyRead.j1,if_neg d_c,w64 (n:=(s.size:Int) + 1) o_m o_m,w64 (n:=(h:Int) + 1) o_m o_m]
    by_cases h0:(h:Int) > 0
    rotate_left
    ·rw [if_neg h0,if_neg o_m];rfl
    rw [if_pos h0,if_pos o_m,if_neg o_m];rfl
   refine Ev.step hB (Ev.step (fun k=>?_) hfin)
   rw [spec_tyRead.l0,if_neg o_m]
  rw [if_pos hbad]
  refine Ev.step (f:=fun _=>some (0,0,[],false)) (fun k=>?_) (Ev.now _)
  rw [spec_tyRead.j1,if_neg d_c]
  by_cases h0:(h:Int) > 0
  rotate_left
  ·rw [if_neg h0,if_pos o_m]
  rw [if_pos h0]
  by_cases hxw:(x:Int) = w
  rotate_left
  ·rw [if_neg hxw]
  rw [if_pos hxw,if_pos o_m]
 | succ d ih =>
  intro i x w h cs hi hx hw hh hc
  have hlt:i < s.size:=by omega
  rw [bytesOf_drop s i hlt,tyGo]
  have hA:∀ k,spec_tyRead.l0 (k + 1) s x i w h cs = spec_tyRead.j1 k s x i (bt s i != 47) w h cs:=fun k=>by
   rw [spec_tyRead.l0,if_pos o_m,if_pos o_m,if_pos o_m]
  refine Ev.step hA ?_
  by_cases h47:bt s i = 47
  rotate_left
  ·rw [if_neg h47]
   have hb:(bt s i != 47) = true:=by simp [h47]
   simp only [hb]
   by_cases hcell:isCellC (bt s i) = true
   rotate_left
   ·rw [if_neg hcell]
    refine Ev.step (f:=fun _=>some (0,0,[],false)) (fun k=>?_) (Ev.now _)
    rw [spec_tyRead.j1,if_pos rfl,if_pos o_m,if_pos o_m,spec_tyIs_eq,Option.bind_some,if_neg hcell]
   rw [if_pos hcell]
   refine Ev.step (fun k=>?_) (ih (i + 1) (x + 1) w h (cs ++ [bt s i]) o_m o_m o_m o_m (by simp;omega))
   rw [spec_tyRead.j1,if_pos rfl,if_pos o_m,if_pos o_m,spec_tyIs_eq,Option.bind_some,if_pos hcell,if_pos o_m,w64 o_m o_m,w64 o_m o_m]
   rfl
  rw [if_pos h47]
  have hb:(bt s i != 47) = false:=by simp [h47]
  simp only [hb]
  by_cases hbad:(0 < h ∧ x ≠ w) ∨ x = 0
  rotate_left
  ·rw [if_neg hbad]
   refine Ev.step (fun k=>?_) (ih (i + 1) 0 x (h + 1) cs o_m o_m o_m o_m o_m)
   rw [spec_tyRead.j1,if_neg d_c,w64 (n:=(i:Int) + 1) o_m o_m,w64 (n:=(h:Int) + 1) o_m o_m]
   by_cases h0:(h:Int) > 0
   rotate_left
   ·rw [if_neg h0,if_neg o_m];rfl
   rw [if_pos h0,if_pos o_m,if_neg o_m];rfl
  rw [if_pos hbad]
  refine Ev.step (f:=fun _=>some (0,0,[],false)) (fun k=>?_) (Ev.now _)
  rw [spec_tyRead.j1,if_neg d_c]
  by_cases h0:(h:Int) > 0
  rotate_left
  ·rw [if_neg h0,if_pos o_m]
  rw [if_pos h0]
  by_cases hxw:(x:Int) = w
  rotate_left
  ·rw [if_neg hxw]
  rw [if_pos hxw,if_pos o_m]
theorem spec_tyRead_ev (s:ByteArray):Ev (fun k=>spec_tyRead.f k s) (ansT (tyGrid (bytesOf s))):=by
 unfold spec_tyRead.f tyGrid
 rw [bytesOf_length]
 by_cases h:(s.size:Int) > 42
 ·simp only [if_pos h];rw [if_pos o_m];exact Ev.now _
 simp only [if_neg h];rw [if_neg o_m]
 have h0:=tyRead_l0 s o_m s.size 0 0 0 0 [] o_m (Nat.le_refl _) (Nat.le_refl _) (Nat.le_refl _) (Nat.le_refl _)
 rw [List.drop_zero] at h0
 cases hg:tyGo (bytesOf s) 0 0 0 [] with
 | none=>rw [hg] at h0;exact h0
 | some z=>rw [hg] at h0;exact h0
end Go.Proofs.YtldhkbiomingbaaGreatDoor.F

namespace Go.Proofs.YtldhkbiomingbaaGreatDoor.F
open Go.Proofs.YtldhkbiomingbaaGreatDoor
open Go.RowKit Go.YW.PrintWords Go.YW.PrintLast Go.YW.PrintMore
attribute [local go_sem] max2_int min2_int max_two min_two max_three min_three max_four min_four
def spec_tyText.l0:Nat → ByteArray → Int → Int → Int → List Int → Option (ByteArray)
 | 0,_,_,_,_,_=>none
 | k + 1,x3,x4,x102000,x102001,x102002=>if x4 < x102001 then (if x4 > 0 then (if x3.size + 1 ≤ 9223372036854775807 then (if 0 ≤ (wrap64 (x4 * x102000)) then (if (wrap64 (x4 * x102000)) ≤ (wrap64 ((wrap64 (x4 + 1)) * x102000)) then (if (wrap64 ((wrap64 (x4 + 1)) * x102000)) ≤ (x102002.length:Int) then (if (x3 ++ (⟨#[47]⟩:ByteArray)).size + (strOfNums ((x102002.take ((wrap64 ((wrap64 (x4 + 1)) * x102000)):Int).toNat).drop ((wrap64 (x4 * x102000)):Int).toNat)).size ≤ 9223372036854775807 then (spec_tyText.l0 k ((x3 ++ (⟨#[47]⟩:ByteArray)) ++ (strOfNums ((x102002.take ((wrap64 ((wrap64 (x4 + 1)) * x102000)):Int).toNat).drop ((wrap64 (x4 * x102000)):Int).toNat))) (wrap64 (x4 + 1)) x102000 x102001 x102002) else (none)) else (none)) else (none)) else (none)) else (none)) else (if 0 ≤ (wrap64 (x4 * x102000)) then (if (wrap64 (x4 * x102000)) ≤ (wrap64 ((wrap64 (x4 + 1)) * x102000)) then (if (wrap64 ((wrap64 (x4 + 1)) * x102000)) ≤ (x102002.length:Int) then (if x3.size + (strOfNums ((x102002.take ((wrap64 ((wrap64 (x4 + 1)) * x102000)):Int).toNat).drop ((wrap64 (x4 * x102000)):Int).toNat)).size ≤ 9223372036854775807 then (spec_tyText.l0 k (x3 ++ (strOfNums ((x102002.take ((wrap64 ((wrap64 (x4 + 1)) * x102000)):Int).toNat).drop ((wrap64 (x4 * x102000)):Int).toNat))) (wrap64 (x4 + 1)) x102000 x102001 x102002) else (none)) else (none)) else (none)) else (none))) else (some x3)
def spec_tyText.f (k:Nat) (a0_0:Int) (a0_1:Int) (l0_2:List Int):Option (ByteArray):=spec_tyText.l0 k (⟨#[]⟩:ByteArray) 0 a0_0 a0_1 l0_2
theorem spec_tyText.mono_l:∀ k,(∀ y0 y1 y2 y3 y4,LeO (spec_tyText.l0 k y0 y1 y2 y3 y4) (spec_tyText.l0 (k + 1) y0 y1 y2 y3 y4))
 | 0=>fun _ _ _ _ _ r h=>by simp [spec_tyText.l0] at h
 | k + 1=>by
  have ih0:=spec_tyText.mono_l k
  ·intro y0 y1 y2 y3 y4
   unfold spec_tyText.l0
   exact mo
theorem spec_tyText.calls (k:Nat) (a0_0:Int) (a0_1:Int) (A0_2:Option Addr) (c0_2:Nat) (l0_2:List Int) (r:ByteArray) (w:World) (hr0_2:Kd.C (Kd.int .u8) w A0_2 l0_2.length l0_2) (hc0_2:l0_2.length ≤ c0_2) (h:spec_tyText.f k a0_0 a0_1 l0_2 = some r) :
  Calls Tryz.prog 65 #[.agg #[.int .i64 a0_0,.int .i64 a0_1,.slice A0_2 l0_2.length c0_2]] w fun e w'=>e = .returned (.string r) ∧ Below w.heap.size w w':=by
 have hu75:=Tryz.underlying75
 have HR0_2:=am hr0_2
 have HC0_2:=am hc0_2
 clear hr0_2 hc0_2
 have HB:=am (Below.refl w.heap.size w)
 have H:(spec_tyText.l0 k (⟨#[]⟩:ByteArray) 0 a0_0 a0_1 l0_2) = some r:=h
 clear h
 have H':=am H
 clear H
 go_enter Tryz.func65,Tryz.ntmps65
 go_wp2_with (first | (refine bx 1 #[.int .i64 a0_0,.int .i64 a0_1,.slice A0_2 l0_2.length c0_2] 75 ?_;intro gb101 hg w2 hbox hb;have BK101:=am (hbox);have GW101:=am ((by rw [hg];exact (below_size aq2):w.heap.size ≤ gb101));have GE101:=GW101;replace HB:=am (below_step aq2 hb);clear hb hbox hg))
 go_loopg [3,4] k (fun kq v3 v4 w'=>∃ (x3_1:ByteArray) (x4_1:Int),v3 = .string x3_1 ∧ v4 = .int .i64 x4_1 ∧ Aside0 (spec_tyText.l0 kq x3_1 x4_1 a0_0 a0_1 l0_2 = some r) ∧ Aside0 (kq ≤ k) ∧ Aside0 (w'.heap[gb101]? = some (.cells #[.int .i64 a0_0,.int .i64 a0_1,(.slice A0_2 l0_2.length c0_2)] 75 (0,0))) ∧ Aside0 (Below w.heap.size w w'))
 case atStart=>exact ⟨((⟨#[]⟩:ByteArray)),(0),aq7,aq7,H',⟨Nat.le_refl _⟩,⟨aq1⟩,⟨aq0⟩⟩
 case round =>
  clear H'
  try clear p2
  obtain ⟨x3_1,x4_1,rfl,rfl,HA,HK1,BK101,HB⟩:=hrel
  cases gk with
  | zero=>exact absurd HA.out (by simp [spec_tyText.l0])
  | succ k1 =>
   have H:=HA.out
   clear HA
   simp only [spec_tyText.l0] at H
   by_cases c3:x4_1 < a0_1
   rotate_left
   ·rw [if_neg c3] at H
    have c3b0:=decide_eq_false c3
    clear c3
    obtain rfl:=Option.some.inj H
    obtain ⟨hcz22_0,hcz22_1,hcz22_2,hfz22_0,hfz22_1,hfz22_2⟩:=blk3_ BK101.out
    go_wp2
    go_ret
    exact ⟨aq8,aq0⟩
   rw [if_pos c3] at H
   have c3b0:=decide_eq_true c3
   clear c3
   by_cases c4:x4_1 > 0
   rotate_left
   ·rw [if_neg c4] at H
    have c4b0:=decide_eq_false c4
    clear c4
    obtain ⟨ji14,hji14⟩:∃ j_:Int,(wrap64 (x4_1 * a0_0)) = j_:=⟨_,rfl⟩
    first | rw [hji14] at H | simp only [hji14] at H
    have hji14w:(IntKind.i64.wrap (x4_1 * a0_0)) = ji14:=(i64_w _).trans hji14
    replace H:=gd H
    obtain ⟨c15,H⟩:=H
    have c15b0:=eq_true c15
    have c15b1:=decide_eq_true c15
    clear c15
    replace H:=gd H
    obtain ⟨c16,H⟩:=H
    have c16b0:=eq_true c16
    have c16b1:=decide_eq_true c16
    replace H:=gd H
    obtain ⟨c17,H⟩:=H
    have c17b0:=eq_true c17
    have c17b1:=decide_eq_true c17
    replace H:=gd H
    obtain ⟨c18,H⟩:=H
    have c18b0:=eq_true c18
    have c18b1:=decide_eq_true c18
    try have c18b2:(9223372036854775807 < x3_1.size + (strOfNums ((l0_2.take ((wrap64 ((wrap64 (x4_1 + 1)) * a0_0)):Int).toNat).drop ((ji14):Int).toNat)).size) = False:=eq_false (Nat.not_lt.2 c18)
    have H':=am H
    clear H
    obtain ⟨hcz19_0,hcz19_1,hcz19_2,hfz19_0,hfz19_1,hfz19_2⟩:=blk3_ BK101.out
    obtain ⟨i020,hi020,_,hsz20,_⟩:=info_parts info5
    obtain ⟨A20,hcut20,hA20,hC20⟩:=print_mid_of (P:=Tryz.prog) (Value.int .u8) 0 63 5 .i64 .i64 Tryz.underlying63 hi020 hsz20 A0_2 c0_2 l0_2 (ji14) (wrap64 ((wrap64 (x4_1 + 1)) * a0_0)) (of_decide_eq_true aq4) (by first | omega | exact of_decide_eq_true aq4) (of_decide_eq_true aq4) HC0_2.out
    have HR103:=am (Kd.C_of_reads (h1:=fun _=>rfl) (hA20 _ (Kd.reads_of_C HR0_2.out)))
    have HC103:=am hC20
    clear hA20 hC20 hi020 hsz20
    have hcv21:=Kd.C_string (P:=Tryz.prog) (A:=A20) (c:=(c0_2 - (ji14).toNat)) Tryz.underlying63 Tryz.underlying5 Tryz.underlying9 (Kd.C_below HR103.out HB.out)
    (try rw [List.length_drop,List.length_take,Nat.min_eq_left (Int.toNat_le.2 (of_decide_eq_true aq4))] at hcv21)
    go_wp2
    go_roundg k1
    case measure=>have:=HK1.out;omega
    case rel=>exact ⟨(x3_1 ++ (strOfNums ((l0_2.take ((wrap64 ((wrap64 (x4_1 + 1)) * a0_0)):Int).toNat).drop ((ji14):Int).toNat))),(wrap64 (x4_1 + 1)),(by first | rfl | (simp;done) | (simp only [← hji14] <;> (first | rfl | simp)) | (simp [*];done)),aq7,H',⟨aq70⟩,⟨aq1⟩,⟨aq0⟩⟩
   rw [if_pos c4] at H
   have c4b0:=decide_eq_true c4
   clear c4
   replace H:=gd H
   obtain ⟨c5,H⟩:=H
   have c5b0:=eq_true c5
   have c5b1:=decide_eq_true c5
   try have c5b2:(9223372036854775807 < x3_1.size + 1) = False:=eq_false (Nat.not_lt.2 c5)
   obtain ⟨ji6,hji6⟩:∃ j_:Int,(wrap64 (x4_1 * a0_0)) = j_:=⟨_,rfl⟩
   first | rw [hji6] at H | simp only [hji6] at H
   have hji6w:(IntKind.i64.wrap (x4_1 * a0_0)) = ji6:=(i64_w _).trans hji6
   replace H:=gd H
   obtain ⟨c7,H⟩:=H
   have c7b0:=eq_true c7
   have c7b1:=decide_eq_true c7
   clear c7
   replace H:=gd H
   obtain ⟨c8,H⟩:=H
   have c8b0:=eq_true c8
   have c8b1:=decide_eq_true c8
   replace H:=gd H
   obtain ⟨c9,H⟩:=H
   have c9b0:=eq_true c9
   have c9b1:=decide_eq_true c9
   replace H:=gd H
   obtain ⟨c10,H⟩:=H
   have c10b0:=eq_true c10
   have c10b1:=decide_eq_true c10
   try have c10b2:(9223372036854775807 < (x3_1 ++ (⟨#[47]⟩:ByteArray)).size + (strOfNums ((l0_2.take ((wrap64 ((wrap64 (x4_1 + 1)) * a0_0)):Int).toNat).drop ((ji6):Int).toNat)).size) = False:=eq_false (Nat.not_lt.2 c10)
   have H':=am H
   clear H
   obtain ⟨hcz11_0,hcz11_1,hcz11_2,hfz11_0,hfz11_1,hfz11_2⟩:=blk3_ BK101.out
   obtain ⟨i012,hi012,_,hsz12,_⟩:=info_parts info5
   obtain ⟨A12,hcut12,hA12,hC12⟩:=print_mid_of (P:=Tryz.prog) (Value.int .u8) 0 63 5 .i64 .i64 Tryz.underlying63 hi012 hsz12 A0_2 c0_2 l0_2 (ji6) (wrap64 ((wrap64 (x4_1 + 1)) * a0_0)) (of_decide_eq_true aq4) (by first | omega | exact of_decide_eq_true aq4) (of_decide_eq_true aq4) HC0_2.out
   have HR102:=am (Kd.C_of_reads (h1:=fun _=>rfl) (hA12 _ (Kd.reads_of_C HR0_2.out)))
   have HC102:=am hC12
   clear hA12 hC12 hi012 hsz12
   have hcv13:=Kd.C_string (P:=Tryz.prog) (A:=A12) (c:=(c0_2 - (ji6).toNat)) Tryz.underlying63 Tryz.underlying5 Tryz.underlying9 (Kd.C_below HR102.out HB.out)
   (try rw [List.length_drop,List.length_take,Nat.min_eq_left (Int.toNat_le.2 (of_decide_eq_true aq4))] at hcv13)
   go_wp2
   go_roundg k1
   case measure=>have:=HK1.out;omega
   case rel=>exact ⟨((x3_1 ++ (⟨#[47]⟩:ByteArray)) ++ (strOfNums ((l0_2.take ((wrap64 ((wrap64 (x4_1 + 1)) * a0_0)):Int).toNat).drop ((ji6):Int).toNat))),(wrap64 (x4_1 + 1)),(by first | rfl | (simp;done) | (simp only [← hji6] <;> (first | rfl | simp)) | (simp [*];done)),aq7,H',⟨aq70⟩,⟨aq1⟩,⟨aq0⟩⟩
end Go.Proofs.YtldhkbiomingbaaGreatDoor.F

namespace Go.Proofs.YtldhkbiomingbaaGreatDoor.F
open Go.RowKit Go.Proofs.YtldhkbiomingbaaGreatDoor Go.YW.PrintWords
theorem w64t {n:Nat} (h:n ≤ 9223372036854775807):wrap64 (n:Int) = n:=w64 o_m o_m
theorem flatten_snoc {α:Type} (f:Nat → List α) (n:Nat):((List.range (n + 1)).map f).flatten = ((List.range n).map f).flatten ++ f n:=by
 rw [List.range_succ,List.map_append,List.flatten_append];simp
theorem map_snoc {α:Type} (f:Nat → α) (n:Nat):(List.range (n + 1)).map f = (List.range n).map f ++ [f n]:=by
 rw [List.range_succ,List.map_append];rfl
def textB (g:(Nat × Nat × List Int)):ByteArray:=strOfNums (textG g)
theorem strOfNums_app (a b:List Int):strOfNums (a ++ b) = strOfNums a ++ strOfNums b:=by
 apply ByteArray.ext
 rw [ByteArray.data_append]
 unfold strOfNums
 simp
theorem strOfNums_len (l:List Int):(strOfNums l).size = l.length:=by
 show ((l.map fun n=>UInt8.ofNat n.toNat).toArray).size = _
 simp
theorem bytesOf_str {l:List Int} (h:∀ c ∈ l,0 ≤ c ∧ c < 256):bytesOf (strOfNums l) = l:=by
 unfold bytesOf strOfNums
 simp only [List.map_map]
 apply List.ext_getElem
 ·simp
 ·intro i a b
  have:=h _ (List.getElem_mem b)
  simp only [List.getElem_map,Function.comp,UInt8.toNat_ofNat']
  omega
theorem joinI_snoc:∀ (rs:List (List Int)) (r:List Int),rs ≠ [] → joinI (rs ++ [r]) = joinI rs ++ 47 :: r
 | [],r,h=>absurd rfl h
 | [a],r,_=>rfl
 | a :: b :: rs,r,_=>by
  have ih:=joinI_snoc (b :: rs) r (by simp)
  show a ++ 47 :: joinI ((b :: rs) ++ [r]) = (a ++ 47 :: joinI (b :: rs)) ++ 47 :: r
  rw [ih];simp
theorem joinI_mem:∀ (rs:List (List Int)) {c:Int},c ∈ joinI rs → c = 47 ∨ ∃ r ∈ rs,c ∈ r
 | [],c,h=>by cases h
 | [a],c,h=>.inr ⟨a,by simp,h⟩
 | a :: b :: rs,c,h=>by
  rw [joinI] at h
  rcases List.mem_append.1 h with h | h
  ·exact .inr ⟨a,by simp,h⟩
  ·rcases List.mem_cons.1 h with h | h
   ·exact .inl h
   ·rcases joinI_mem (b :: rs) h with h | ⟨r,hr,hc⟩
    ·exact .inl h
    ·exact .inr ⟨r,List.mem_cons_of_mem _ hr,hc⟩
theorem cell_byte {c:Int} (h:isCellC c = true):0 ≤ c ∧ c < 256:=by
 unfold isCellC isBallC isNameC at h
 simp at h
 omega
theorem textG_byte {g:(Nat × Nat × List Int)} (v:Vg g):∀ c ∈ textG g,0 ≤ c ∧ c < 256:=by
 intro c hc
 rcases joinI_mem _ hc with h | ⟨r,hr,hcr⟩
 ·omega
 ·exact cell_byte (v.cell c ((rowsOf_mem v.len hr).2 c hcr))
theorem bytesOf_textB {g:(Nat × Nat × List Int)} (v:Vg g):bytesOf (textB g) = textG g:=bytesOf_str (textG_byte v)
theorem textB_inj {g k:(Nat × Nat × List Int)} (hg:Vg g) (hk:Vg k) (h:textB g = textB k):g = k :=
 textG_inj hg hk (by rw [← bytesOf_textB hg,← bytesOf_textB hk,h])
theorem grid_textB {g:(Nat × Nat × List Int)} (v:Vg g):tyGrid (bytesOf (textB g)) = some g:=by rw [bytesOf_textB v];exact tyGrid_text v
theorem textB_grid {s:ByteArray} {g:(Nat × Nat × List Int)} (h:tyGrid (bytesOf s) = some g):Vg g ∧ textB g = s:=by
 obtain ⟨w,hh,cs⟩:=g
 obtain ⟨v,e⟩:=tyGrid_VG h
 exact ⟨v,bytesOf_inj (by rw [bytesOf_textB (g:=(w,hh,cs)) v];exact e)⟩
theorem textG_small {g:(Nat × Nat × List Int)} (v:Vg g):(textG g).length ≤ 42:=by
 have h1:=joinI_length (rowsOf g.1 g.2.1 g.2.2) (rowsOf_ne v.h1)
 rw [rowsOf_flatten _ _ _ v.len,rowsOf_length,v.len] at h1
 have:=v.small
 have:=v.h7
 show (joinI (rowsOf g.1 g.2.1 g.2.2)).length ≤ 42
 omega
theorem textB_small {g:(Nat × Nat × List Int)} (v:Vg g):(textB g).size ≤ 42:=by
 rw [textB,strOfNums_len];exact textG_small v
theorem flat_len (w:Nat) (cs:List Int):∀ i,(rowsOf w i cs).flatten.length ≤ i * w
 | 0=>by simp [rowsOf]
 | i + 1=>by
  have ih:=flat_len w cs i
  unfold rowsOf at ih ⊢
  rw [flatten_snoc,List.length_append,List.length_take,Nat.succ_mul]
  omega
theorem text_ev_l0 {w h:Nat} {cs:List Int} (hw:w ≤ 20) (hh:h ≤ 20) (hl:cs.length = w * h):∀ (d i:Nat),i + d = h →
  Ev (fun k=>spec_tyText.l0 k (strOfNums (joinI (rowsOf w i cs))) i w h cs) (strOfNums (joinI (rowsOf w h cs)))
 | 0,i,hi=>by
  obtain rfl:i = h:=by omega
  refine Ev.step (f:=fun _=>some _) (fun k=>?_) (Ev.now _)
  rw [spec_tyText.l0,if_neg o_m]
 | d + 1,i,hi=>by
  have ih:=text_ev_l0 hw hh hl d (i + 1) o_m
  have hwh:w * h ≤ 400:=Nat.mul_le_mul hw hh
  have hi2:(i + 1) * w ≤ w * h:=by rw [Nat.mul_comm w h];exact Nat.mul_le_mul_right w o_m
  have hi3:(i + 1) * w = i * w + w:=by rw [Nat.add_mul,Nat.one_mul]
  have hrow:(cs.take ((i + 1) * w)).drop (i * w) = (cs.drop (i * w)).take w:=by rw [List.drop_take];congr 1;omega
  have hrl:(strOfNums ((cs.drop (i * w)).take w)).size = w:=by rw [strOfNums_len,List.length_take,List.length_drop];omega
  have hsz:(strOfNums (joinI (rowsOf w i cs))).size ≤ 1000:=by
   rw [strOfNums_len]
   rcases Nat.eq_zero_or_pos i with h0 | h0
   ·subst h0;simp [rowsOf,joinI]
   ·have h1:=joinI_length (rowsOf w i cs) (rowsOf_ne h0)
    have h2:(rowsOf w i cs).flatten.length ≤ 400:=by
     exact Nat.le_trans (flat_len w cs i) (Nat.le_trans (Nat.mul_le_mul (show i ≤ 20 by omega) hw) d_c)
    rw [rowsOf_length] at h1
    omega
  have hnext:strOfNums (joinI (rowsOf w (i + 1) cs)) = if 0 < i then (strOfNums (joinI (rowsOf w i cs)) ++ (⟨#[47]⟩:ByteArray)) ++ strOfNums ((cs.drop (i * w)).take w) else strOfNums (joinI (rowsOf w i cs)) ++ strOfNums ((cs.drop (i * w)).take w):=by
   have hs:rowsOf w (i + 1) cs = rowsOf w i cs ++ [(cs.drop (i * w)).take w]:=map_snoc _ i
   rw [hs]
   rcases Nat.eq_zero_or_pos i with h0 | h0
   ·subst h0
    rw [if_neg o_m]
    rw [← strOfNums_app];rfl
   ·rw [if_pos h0,joinI_snoc _ _ (rowsOf_ne h0),show (47 :: (cs.drop (i * w)).take w:List Int) = [47] ++ (cs.drop (i * w)).take w from rfl,← List.append_assoc,strOfNums_app,strOfNums_app];rfl
  rw [hnext] at ih
  refine Ev.step (fun k=>?_) ih
  have e1:wrap64 ((i:Int) * w) = ((i * w:Nat):Int):=by rw [← Int.natCast_mul];exact w64t o_m
  have e2:wrap64 ((((i + 1:Nat):Int)) * w) = (((i + 1) * w:Nat):Int):=by rw [← Int.natCast_mul];exact w64t (by clear e1;omega)
  have e3:wrap64 ((i:Int) + 1) = ((i + 1:Nat):Int):=w64t (n:=i + 1) (by clear e1 e2;omega)
  rw [spec_tyText.l0,e3,e1,e2]
  clear e1 e2 e3
  rw [if_pos o_m]
  by_cases h0:(i:Int) > 0
  rotate_left
  ·rw [if_neg h0,if_pos o_m,if_pos o_m,if_pos o_m,Int.toNat_natCast,Int.toNat_natCast,hrow,if_pos,if_neg (show ¬ 0 < i by omega)]
   rw [hrl];omega
  rw [if_pos h0,if_pos o_m,if_pos o_m,if_pos o_m,if_pos o_m,Int.toNat_natCast,Int.toNat_natCast,hrow,if_pos,if_pos (show 0 < i by omega)]
  rw [ByteArray.size_append,hrl]
  show (strOfNums (joinI (rowsOf w i cs))).size + 1 + w ≤ _
  omega
theorem spec_text_ev {w h:Nat} {cs:List Int} (hw:w ≤ 20) (hh:h ≤ 20) (hl:cs.length = w * h):Ev (fun k=>spec_tyText.f k w h cs) (textB (w,h,cs)):=by
 have h1:=text_ev_l0 hw hh hl h 0 o_m
 exact Ev.congr (fun k=>by rfl) h1
theorem join_strs:∀ rs:List (List Int),Lib.join ((rs.map strOfNums).map (·.data.toList)) [47] = (joinI rs).map fun n=>UInt8.ofNat n.toNat
 | []=>rfl
 | [a]=>by simp [Lib.join,joinI,strOfNums]
 | a :: b :: rs=>by
  have ih:=join_strs (b :: rs)
  rw [joinI]
  unfold Lib.join List.intercalate at ih ⊢
  simp only [List.map_cons] at ih ⊢
  rw [List.intersperse,List.flatten_cons,List.flatten_cons,ih]
  ·simp [strOfNums]
  all_goals simp
theorem impl_text_eq {g:(Nat × Nat × List Int)} (v:Vg g):impl_tray_text.f g.1 g.2.1 g.2.2 = some (textB g):=by
 obtain ⟨w,h,cs⟩:=g
 have hl:cs.length = w * h:=v.len
 have hw1:1 ≤ w:=v.w1
 have hw7:w ≤ 7:=v.w7
 have hh1:1 ≤ h:=v.h1
 have hs:w * h ≤ 36:=v.small
 have h0:0 < w * h:=Nat.mul_pos hw1 hh1
 have hd:cs.length / w = h:=by rw [hl,Nat.mul_div_cancel_left h o_m]
 have hck:chunksB w cs = (rowsOf w h cs).map strOfNums:=by
  unfold chunksB rowsOf
  rw [hd,List.map_map];rfl
 have htl:=textG_small v
 have hj:=join_strs (rowsOf w h cs)
 have hjl:(joinI (rowsOf w h cs)).length ≤ 42:=htl
 show impl_tray_text.f w h cs = _
 unfold impl_tray_text.f
 rw [if_pos ⟨by omega,by omega,by omega,by rw [Int.toNat_natCast,hl];exact Nat.mul_mod_right w h,by omega⟩,Int.toNat_natCast,hck]
 unfold strings_Join.f
 rw [if_pos]
 ·unfold joinB
  show some (⟨(Lib.join (((rowsOf w h cs).map strOfNums).map (·.data.toList)) [47]).toArray⟩:ByteArray) = _
  rw [hj];rfl
 ·refine ⟨by rw [List.length_map,rowsOf_length];have:=v.h7;simp only at this;omega,?_⟩
  show (Lib.join (((rowsOf w h cs).map strOfNums).map (·.data.toList)) [47]).length ≤ _
  rw [hj,List.length_map]
  omega
end Go.Proofs.YtldhkbiomingbaaGreatDoor.F

namespace Go.Proofs.YtldhkbiomingbaaGreatDoor.F
open Go.RowKit Go.Proofs.YtldhkbiomingbaaGreatDoor Go.YW.PrintWords Classical
theorem impl_isSize_eq (w h:Int) (hw:0 ≤ w ∧ w ≤ 4294967296) (hh:0 ≤ h ∧ h ≤ 4294967296):impl_isSize.f w h = some (decide ((1 ≤ w ∧ w ≤ 7) ∧ (1 ≤ h ∧ h ≤ 7) ∧ w * h ≤ 36)):=by
 unfold impl_isSize.f impl_within.f
 by_cases h1:1 ≤ w
 rotate_left
 ·simp [h1]
 by_cases h2:w ≤ 7
 rotate_left
 ·simp [h1,h2]
 by_cases h3:1 ≤ h
 rotate_left
 ·simp [h1,h2,h3]
 by_cases h4:h ≤ 7
 rotate_left
 ·simp [h1,h2,h3,h4]
 have h5:w * h ≤ 7 * 7:=Int.mul_le_mul h2 h4 o_m o_m
 have h6:0 ≤ w * h:=Int.mul_nonneg o_m o_m
 simp [h1,h2,h3,h4,w64 (n:=w * h) o_m o_m]
theorem dropWhile_nil {α:Type} (p:α → Bool):∀ l:List α,l.dropWhile p = [] ↔ ∀ a ∈ l,p a = true
 | []=>by simp
 | a :: l=>by
  rw [List.dropWhile_cons]
  by_cases h:p a = true
  rotate_left
  ·rw [if_neg h];simp [h]
  rw [if_pos h,dropWhile_nil p l];simp [h]
theorem trimS_nil_iff (l cs:List UInt8):Lib.trimS l cs = [] ↔ ∀ b ∈ l,b ∈ cs:=by
 unfold Lib.trimS Lib.trimLeftS Lib.trimRightS
 rw [dropWhile_nil]
 constructor
 ·intro h b hb
  rcases Classical.em (∀ b ∈ l,cs.contains b = true) with h1 | h1
  ·simpa using h1 b hb
  ·exfalso
   have h2:¬ l.reverse.dropWhile (cs.contains ·) = []:=by
    rw [dropWhile_nil]
    intro h3;exact h1 (fun b hb=>h3 b (List.mem_reverse.2 hb))
   have h3:=List.head_dropWhile_not (cs.contains ·) (l:=l.reverse) h2
   have h4:=h ((l.reverse.dropWhile (cs.contains ·)).head h2) (List.mem_reverse.2 (List.head_mem h2))
   rw [h3] at h4;cases h4
 ·intro h b hb
  have:b ∈ l:=by
   have h1:=List.mem_reverse.1 hb
   exact List.mem_reverse.1 ((List.dropWhile_sublist _).subset h1)
  simpa using h b this
theorem toList_nil_iff (s:ByteArray):s.toList = [] ↔ s.data.toList = []:=by rw [Lib.toList_data]
theorem trim_nil (s cut t:ByteArray) (hs:s.size ≤ 9223372036854775807) (hc:cut.size < 4294967281) (ha:asciiB cut = true) :
  ∃ t,strings_Trim.f s cut = some t ∧ (t.toList = [] ↔ ∀ c ∈ bytesOf s,c ∈ bytesOf cut):=by
 refine ⟨_,if_pos ⟨hs,hc,ha⟩,?_⟩
 rw [toList_nil_iff]
 simp only [trimS_nil_iff]
 unfold bytesOf
 constructor
 ·intro h c hcm
  obtain ⟨b,hb,rfl⟩:=List.mem_map.1 hcm
  exact List.mem_map.2 ⟨b,h b hb,rfl⟩
 ·intro h b hb
  obtain ⟨b',hb',he⟩:=List.mem_map.1 (h _ (List.mem_map.2 ⟨b,hb,rfl⟩))
  have:b' = b:=UInt8.toNat_inj.1 o_m
  rwa [← this]
theorem cellSet (c:Int):c ∈ bytesOf (⟨#[35,46,111,97,98,99,100,101,102]⟩:ByteArray) ↔ isCellC c = true:=by
 have:bytesOf (⟨#[35,46,111,97,98,99,100,101,102]⟩:ByteArray) = [35,46,111,97,98,99,100,101,102]:=by decide
 rw [this]
 unfold isCellC isBallC isNameC
 simp
 omega
theorem count_rune (s:ByteArray) (n:Nat) (h1:97 ≤ n) (h2:n ≤ 102):strings_Count.f s (Utf8.encode n) = some (((bytesOf s).count (n:Int):Nat):Int):=by
 have he:Utf8.encode (n:Int) = ⟨#[UInt8.ofNat n]⟩:=by
  have:n = 97 ∨ n = 98 ∨ n = 99 ∨ n = 100 ∨ n = 101 ∨ n = 102:=by omega
  rcases this with rfl | rfl | rfl | rfl | rfl | rfl <;> rfl
 rw [he]
 have h3:strings_Count.f s ⟨#[UInt8.ofNat n]⟩ = some ((Lib.countByte s.data.toList (UInt8.ofNat n):Nat):Int):=if_pos rfl
 rw [h3]
 have hco:Lib.countByte s.data.toList (UInt8.ofNat n) = (bytesOf s).count (n:Int):=?_
 ·rw [hco]
 unfold Lib.countByte bytesOf
 have hn:(UInt8.ofNat n).toNat = n:=by
  rw [UInt8.toNat_ofNat'];omega
 rw [List.count_eq_countP,List.count_eq_countP,List.countP_map]
 apply List.countP_congr
 intro b _
 simp only [beq_iff_eq,Function.comp]
 constructor
 ·rintro rfl;omega
 ·intro h;exact UInt8.toNat_inj.1 o_m
theorem IsTray_l1 (s:ByteArray):∀ (d n:Nat),n + d = 103 → 97 ≤ n → 
  Ev (fun k=>impl_IsTray.l1 k s n) (decide (∀ m:Int,n ≤ m → m ≤ 102 → (bytesOf s).count m ≤ 1)):=by
 intro d
 induction d with
 | zero =>
  intro n hn _
  rw [decide_eq_true (by intro m h1 h2;omega)]
  exact Ev.step (f:=fun _=>some true) (fun k=>by rw [impl_IsTray.l1,if_neg o_m]) (Ev.now _)
 | succ d ih =>
  intro n hn h97
  have hih:=ih (n + 1) o_m o_m
  by_cases hc:(bytesOf s).count (n:Int) > 1
  ·rw [decide_eq_false (by intro h;have:=h n (Int.le_refl _) o_m;omega)]
   refine Ev.step (f:=fun _=>some false) (fun k=>?_) (Ev.now _)
   rw [impl_IsTray.l1,if_pos o_m,count_rune s n h97 o_m,Option.bind_some,if_pos o_m]
  have he:(∀ m:Int,n ≤ m → m ≤ 102 → (bytesOf s).count m ≤ 1) ↔ (∀ m:Int,(n + 1:Nat) ≤ m → m ≤ 102 → (bytesOf s).count m ≤ 1):=by
   constructor
   ·intro h m h1 h2;exact h m o_m h2
   ·intro h m h1 h2
    rcases Int.lt_or_le n m with h3 | h3
    ·exact h m o_m h2
    ·obtain rfl:m = n:=by omega
     omega
  simp only [he]
  refine Ev.step (fun k=>?_) hih
  rw [impl_IsTray.l1,if_pos o_m,count_rune s n h97 o_m,Option.bind_some,if_neg o_m,w32 o_m o_m]
  rfl
theorem IsTray_l0 (s:ByteArray) (rows:List ByteArray) (r0:ByteArray) (rest:List ByteArray) (hr:rows = r0 :: rest) (hl:rows.length ≤ 4294967296) (hb:∀ r ∈ rows,r.size ≤ 4294967296):∀ (d i:Nat),i + d = rows.length →
  Ev (fun k=>impl_IsTray.l0 k s rows rows rows.length i) (decide ((∀ r ∈ rows.drop i,r.size = r0.size ∧ ∀ c ∈ bytesOf r,isCellC c = true) ∧ ∀ m:Int,97 ≤ m → m ≤ 102 → (bytesOf s).count m ≤ 1)):=by
 intro d
 induction d with
 | zero =>
  intro i hi
  have hd:rows.drop i = []:=by rw [List.drop_eq_nil_iff];omega
  have h1:=IsTray_l1 s 6 97 o_m o_m
  have he:((∀ r ∈ rows.drop i,r.size = r0.size ∧ ∀ c ∈ bytesOf r,isCellC c = true) ∧ ∀ m:Int,97 ≤ m → m ≤ 102 → (bytesOf s).count m ≤ 1) ↔ (∀ m:Int,(97:Nat) ≤ m → m ≤ 102 → (bytesOf s).count m ≤ 1):=by
   rw [hd];simp
  simp only [he]
  exact Ev.step (fun k=>by rw [impl_IsTray.l0,if_neg o_m];rfl) h1
 | succ d ih =>
  intro i hi
  have hih:=ih (i + 1) o_m
  have hlt:i < rows.length:=by omega
  have hd:rows.drop i = rows[i] :: rows.drop (i + 1):=List.drop_eq_getElem_cons hlt
  have hri:rdOf ByteArray.empty rows (i:Int) = rows[i]:=by
   unfold rdOf;rw [Int.toNat_natCast,List.getD_eq_getElem?_getD,List.getElem?_eq_getElem hlt];rfl
  have hr0:rdOf ByteArray.empty rows 0 = r0:=by unfold rdOf;rw [hr];rfl
  have hsz:rows[i].size ≤ 4294967296:=hb _ (List.getElem_mem ..)
  have hstep:∀ k,impl_IsTray.l0 (k + 1) s rows rows rows.length i = (if ((rows[i]).size:Int) = (r0.size:Int) then ((strings_Trim.f (rows[i]) (⟨#[35,46,111,97,98,99,100,101,102]⟩:ByteArray)).bind fun t141=>(if t141.toList = ([]:List UInt8) then (impl_IsTray.l0 k s rows rows rows.length (i + 1:Nat)) else (some false))) else (some false)):=fun k=>by
   rw [impl_IsTray.l0,if_pos o_m,if_pos o_m,if_pos o_m,if_pos o_m,hri,hr0,w64 o_m o_m]
   rfl
  refine Ev.step hstep ?_
  by_cases hz:rows[i].size = r0.size
  rotate_left
  ·simp only [if_neg (show ¬ (rows[i].size:Int) = r0.size by omega)]
   rw [decide_eq_false]
   ·exact Ev.now _
   ·rintro ⟨h1,_⟩
    exact hz (h1 rows[i] (by rw [hd];exact List.mem_cons_self ..)).1
  simp only [if_pos (show (rows[i].size:Int) = r0.size by omega)]
  obtain ⟨t,ht,hiff⟩:=trim_nil rows[i] (⟨#[35,46,111,97,98,99,100,101,102]⟩:ByteArray) ByteArray.empty o_m d_c d_c
  rw [ht]
  simp only [Option.bind_some]
  by_cases hc:∀ c ∈ bytesOf rows[i],isCellC c = true
  rotate_left
  ·simp only [if_neg (fun e=>hc fun c hcm=>(cellSet c).1 (hiff.1 e c hcm))]
   rw [decide_eq_false]
   ·exact Ev.now _
   ·rintro ⟨h1,_⟩
    exact hc (h1 rows[i] (by rw [hd];exact List.mem_cons_self ..)).2
  simp only [if_pos (hiff.2 fun c hcm=>(cellSet c).2 (hc c hcm))]
  have he:((∀ r ∈ rows.drop i,r.size = r0.size ∧ ∀ c ∈ bytesOf r,isCellC c = true) ∧ ∀ m:Int,97 ≤ m → m ≤ 102 → (bytesOf s).count m ≤ 1) ↔ ((∀ r ∈ rows.drop (i + 1),r.size = r0.size ∧ ∀ c ∈ bytesOf r,isCellC c = true) ∧ ∀ m:Int,97 ≤ m → m ≤ 102 → (bytesOf s).count m ≤ 1):=by
   rw [hd];simp only [List.mem_cons,forall_eq_or_imp]
   constructor
   ·rintro ⟨⟨_,h2⟩,h3⟩;exact ⟨h2,h3⟩
   ·rintro ⟨h2,h3⟩;exact ⟨⟨⟨hz,hc⟩,h2⟩,h3⟩
  simp only [he]
  exact hih
theorem impl_IsTray_ev (s:ByteArray) (hs:s.size < 4294967281):Ev (fun k=>impl_IsTray.f k s) (tyGrid (bytesOf s)).isSome:=by
 have hsp:strings_Split.f s (⟨#[47]⟩:ByteArray) = some (rowsB 47 s):=if_pos ⟨hs,rfl⟩
 have hmap:(rowsB 47 s).map bytesOf = rowsI 47 (bytesOf s):=rowsB_bytes 47 s
 cases hr:rowsI 47 (bytesOf s) with
 | nil=>exact absurd hr (rowsI_ne _ _)
 | cons q qs =>
  have hlen:=rowsI_length 47 (bytesOf s) q qs hr
  rw [bytesOf_length] at hlen
  rw [hr] at hmap
  cases hrb:rowsB 47 s with
  | nil=>rw [hrb] at hmap;cases hmap
  | cons r0 rest =>
   rw [hrb,List.map_cons,List.cons.injEq] at hmap
   obtain ⟨hq,hqs⟩:=hmap
   have hq0:q.length = r0.size:=by rw [← hq,bytesOf_length]
   have hql:qs.length = rest.length:=by rw [← hqs,List.length_map]
   have hrow:∀ r ∈ r0 :: rest,r.size ≤ 4294967296:=by
    intro r hm
    rcases List.mem_cons.1 hm with rfl | hm
    ·omega
    ·have h1:bytesOf r ∈ qs:=by rw [← hqs];exact List.mem_map.2 ⟨r,hm,rfl⟩
     have h2:=(List.sublist_flatten_of_mem h1).length_le
     rw [bytesOf_length] at h2;omega
   have hiff:(tyGrid (bytesOf s)).isSome = decide (((1 ≤ (r0.size:Int) ∧ (r0.size:Int) ≤ 7) ∧ (1 ≤ ((r0 :: rest).length:Int) ∧ ((r0 :: rest).length:Int) ≤ 7) ∧ (r0.size:Int) * ((r0 :: rest).length:Int) ≤ 36) ∧
     (∀ r ∈ (r0 :: rest).drop 0,r.size = r0.size ∧ ∀ c ∈ bytesOf r,isCellC c = true) ∧ ∀ m:Int,97 ≤ m → m ≤ 102 → (bytesOf s).count m ≤ 1):=by
    rw [Bool.eq_iff_iff,tyGrid_iff,decide_eq_true_iff]
    unfold rowsTray
    rw [hr]
    simp only [List.headD_cons,List.length_cons,List.drop_zero,hq0,hql]
    have hg:rowsGood r0.size (q :: qs) ↔ (∀ r ∈ r0 :: rest,r.size = r0.size ∧ ∀ c ∈ bytesOf r,isCellC c = true):=by
     unfold rowsGood
     have e:q :: qs = (r0 :: rest).map bytesOf:=by rw [List.map_cons,hq,hqs]
     rw [e]
     constructor
     ·intro h r hm
      have:=h (bytesOf r) (List.mem_map.2 ⟨r,hm,rfl⟩)
      rwa [bytesOf_length] at this
     ·intro h z hz
      obtain ⟨r,hm,rfl⟩:=List.mem_map.1 hz
      have:=h r hm
      rwa [bytesOf_length]
    rw [hg]
    have hmul:(r0.size:Int) * ((rest.length + 1:Nat):Int) ≤ 36 ↔ r0.size * (rest.length + 1) ≤ 36:=by
     rw [← Int.natCast_mul];omega
    rw [hmul]
    constructor
    ·rintro ⟨h1,h2,h3,h4,h5⟩;exact ⟨⟨by omega,by omega,h3⟩,h4,h5⟩
    ·rintro ⟨⟨h1,h2,h3⟩,h4,h5⟩;exact ⟨by omega,by omega,h3,h4,h5⟩
   rw [hiff]
   unfold impl_IsTray.f
   rw [hsp,hrb]
   simp only [Option.bind_some]
   have h00:rdOf ByteArray.empty (r0 :: rest) 0 = r0:=rfl
   have hln:(r0 :: rest).length ≤ 4294967296:=by simp only [List.length_cons];omega
   simp only [if_pos (show (0:Int) < ((r0 :: rest).length:Int) by simp only [List.length_cons];omega),h00,impl_isSize_eq (r0.size:Int) ((r0 :: rest).length:Int) o_m o_m,Option.bind_some]
   by_cases hsize:(1 ≤ (r0.size:Int) ∧ (r0.size:Int) ≤ 7) ∧ (1 ≤ ((r0 :: rest).length:Int) ∧ ((r0 :: rest).length:Int) ≤ 7) ∧ (r0.size:Int) * ((r0 :: rest).length:Int) ≤ 36
   rotate_left
   ·simp only [decide_eq_false hsize]
    rw [decide_eq_false (fun e=>hsize e.1)]
    exact Ev.now _
   simp only [decide_eq_true hsize,if_true]
   have h0:=IsTray_l0 s (r0 :: rest) r0 rest rfl hln hrow (r0 :: rest).length 0 o_m
   simp only [hsize,true_and]
   exact h0
end Go.Proofs.YtldhkbiomingbaaGreatDoor.F

namespace Go.Proofs.YtldhkbiomingbaaGreatDoor.F
open Go.Proofs.YtldhkbiomingbaaGreatDoor
open Go.RowKit Go.YW.PrintWords Go.YW.PrintLast Go.YW.PrintMore
attribute [local go_sem] max2_int min2_int max_two min_two max_three min_three max_four min_four
def impl_read.f (a0:ByteArray):Option (Int × Int × List Int):=(strings_Split.f a0 (⟨#[47]⟩:ByteArray)).bind fun t102=>(if 0 < (t102.length:Int) then ((strings_Join.f t102 (⟨#[]⟩:ByteArray)).bind fun t106=>((conv_bytes.f t106).bind fun t107=>(some (((rdOf ByteArray.empty t102 0).size:Int),(t102.length:Int),t107)))) else (none))
def impl_read.T2:Bool × List (List Nat × List Nat):=(true,[([],[]),([0],[0]),([1],[1]),([2],[2]),([],[]),([4],[4]),([],[]),([6],[6]),([7],[7]),([3,5,8],[3,5,8]),([9,7,0,1,2,3,4,5,6,7,8,9],[9])])
def impl_read.B2:List Nat:=[0,1,3,7,0,16,0,64,192,511,1023]
theorem impl_read.tab2:rtab .any (opsOf Tryz.f51 2) = impl_read.T2:=by kernel_rfl
theorem impl_read.bits2:waitsOk impl_read.T2.2 impl_read.B2 = true:=by kernel_rfl
theorem impl_read.calls (a0:ByteArray) (r1:Int) (r2:Int) (r3:List Int) (w:World) (h:impl_read.f a0 = some (r1,r2,r3)) :
  Calls Tryz.prog 51 #[.string a0] w fun e w'=>∃ v2_:Value,e = .returned (.agg #[.int .i64 r1,.int .i64 r2,v2_]) ∧ Kd.V (Kd.int .u8) 5 w' w.heap.size (fun k_=>(w.heap.size ≤ k_)) v2_ r3 ∧ Below w.heap.size w w':=by
 have hu65:=Tryz.underlying65
 have HB:=am (Below.refl w.heap.size w)
 have H:((strings_Split.f a0 (⟨#[47]⟩:ByteArray)).bind fun t102=>(if 0 < (t102.length:Int) then ((strings_Join.f t102 (⟨#[]⟩:ByteArray)).bind fun t106=>((conv_bytes.f t106).bind fun t107=>(some (((rdOf ByteArray.empty t102 0).size:Int),(t102.length:Int),t107)))) else (none))) = some (r1,r2,r3):=h
 clear h
 obtain ⟨t102,A2,H⟩:=bn H
 replace H:=gd H
 obtain ⟨c3,H⟩:=H
 have c3b0:=decide_eq_true c3
 have c3b1:decide (0 < t102.length) = true:=decide_eq_true o_m
 clear c3
 obtain ⟨t106,A4,H⟩:=bn H
 obtain ⟨t107,A5,H⟩:=bn H
 simp only [Option.some.injEq,Prod.mk.injEq] at H
 obtain ⟨rfl,rfl,rfl⟩:=H
 go_enter Tryz.func51,Tryz.ntmps51
 try go_wp2_with (first | (refine bx 2 #[.int .i64 0,.int .i64 0,.slice none 0 0] 65 ?_;intro gb101 hg w6 hbox hb;have BK101:=am (hbox);have GW101:=am ((by rw [hg];exact (below_size aq2):w.heap.size ≤ gb101));have GE101:=GW101;replace HB:=am (below_step aq2 hb);clear hb hbox hg) | ((with_reducible refine gate_callee (f:=90) rfl ?_);refine goesL_ (some 5) rfl rfl Tryz.func90 k_r rfl #[.string a0,.string (⟨#[47]⟩:ByteArray)] rfl aq6 ?_;(with_reducible refine (strings_Split.calls a0 (⟨#[47]⟩:ByteArray) t102 _ A2.out).mono ?_);rintro e w7 ⟨v103,rfl,ho0,hb⟩;refine ⟨_,rfl,?_⟩;have HO104:=am (Kd.R_lower (Kd.R_newM (M:=fun k_=>(w.heap.size ≤ k_)) ho0 (below_size aq0) (fun k_ h_=>h_)) (below_size aq0));replace BK101:=am (bb BK101 hb);replace HB:=am (below_step aq0 hb);(try clear hb);(try clear ho0)))
 replace HO104:=am (Kd.R_drew HO104.out)
 replace BK101:=am (blk_drew BK101.out)
 replace HB:=am (below_drew1 HB.out)
 obtain ⟨Ao9,co9,eo9⟩:=Kd.R_slice HO104.out
 (first | subst eo9 | (injection eo9 with f1_ f2_ f3_;have f4_:=f1_.symm;have f5_:=f3_.symm;clear f1_ f2_ f3_;subst f4_;subst f5_))
 have p105:0 ≤ (0:Int):=o_m
 have q105:0 < (t102.length:Int):=of_decide_eq_true aq4
 obtain ⟨ad105,e105,hx105_0⟩:=Kd.at_string (Kd.R_reads' HO104.out).2.2 0 p105 q105
 cases e105
 have qi105:(0 < t102.length) = True:=eq_true o_m
 (try rw [show ((0:Int)).toNat = 0 from rfl] at hx105_0)
 (try rw [Addr.add_zero'] at hx105_0)
 replace p105:=eq_true p105
 replace q105:=eq_true q105
 refine start_ (n:=11) (S:=fun w'=>w'.cell? ad105 = some (.string (rdOf ByteArray.empty t102 0))) (ds:=[]) (bm 11 0) k_r rfl rfl (hx105_0) (fun hHeld=>?_);refine with_tabW impl_read.tab2 impl_read.bits2 (fun HT_ HW_=>?_)
 generalize w7.drew = w8 at HO104 BK101 HB hx105_0 hHeld ⊢
 refine py (i:=0) (N:=some 6) (bm 11 1) ?_
 refine py (i:=1) (N:=some 7) (bm 11 3) ?_
 refine py (i:=4) (N:=some 10) (bm 11 19) ?_
 refine py (i:=5) (N:=some 11) (bm 11 51) ?_
 refine py (i:=6) (N:=some 12) (bm 11 115) ?_
 refine take_ (i:=2) (N:=some 8) (v:=?_) (a':=?_) (bm 11 119) rfl rfl (take_ofW HT_.out HW_.out k_r) (fun _ _ _ h=>h) (Or.inl ⟨by rfl,?_⟩) hHeld ?_ ?_
 rotate_left
 ·intro w' s0
  go_simp
  with_reducible rfl
 rotate_left
 ·simp only [Act.put,ac_]
  rfl
 refine py (i:=3) (N:=some 9) (bm 11 127) ?_
 refine one_ (i:=7) (N:=some 13) (bm 11 255) rfl rfl (one_of HT_.out k_r) d_c (fun K hK=>?_)
 refine goes_ Tryz.func91 k_r rfl #[.slice (some ad105) t102.length co9,.string (⟨#[]⟩:ByteArray)] (by rfl) rfl rfl aq6 ?_
 with_reducible refine (strings_Join.calls _ _ t102 (⟨#[]⟩:ByteArray) t106 _ ?side1 ?side2 A4.out).mono ?_
 (case side1=>exact aq54)
 (case side2=>exact aq113)
 rintro e w10 ⟨rfl,hb⟩
 have HS0_:=(hb.cell (World.block_lt_of_cell? _ _ (hHeld))).trans (hHeld)
 refine ⟨_,rfl,?_⟩
 replace HO104:=am (Kd.R_below aq27 hb)
 replace BK101:=am (bb BK101 hb)
 replace HB:=am (below_step aq0 hb)
 (try clear hb)
 refine hK.out _ _ (HS0_) (fun hHeld=>?_)
 clear hK K
 refine nm (some 13) ?_
 refine one_ (i:=8) (N:=some 14) (bm 11 511) rfl rfl (one_of HT_.out k_r) d_c (fun K hK=>?_)
 refine conv_step (by rfl) (N:=14) rfl 9 63 5 _ rfl t106 rfl Tryz.underlying9 Tryz.underlying63 Tryz.underlying5 t107 A5.out ?_
 intro v108 w11 ho0 hb
 have HS0_:=(hb.cell (World.block_lt_of_cell? _ _ (hHeld))).trans (hHeld)
 have HO109:=am (Kd.V_lower (Kd.V_mono (ok':=fun k_=>(w.heap.size ≤ k_) ∧ some k_ ≠ (.slice (some ad105) t102.length co9:Value).ownBlock ∧ k_ ≠ gb101) ho0 (fun k_ hk_=>⟨(Nat.le_trans (below_size aq0) hk_),(Kd.fresh' (Kd.R_lt aq27) k_ hk_),(Kd.freshB (g:=gb101) (o:=.cells #[.int .i64 0,.int .i64 0,.slice none 0 0] 65 (0,0)) aq1 k_ hk_)⟩)) (below_size aq0))
 replace HO104:=am (Kd.R_below aq27 hb)
 replace BK101:=am (bb BK101 hb)
 replace HB:=am (below_step aq0 hb)
 (try clear hb)
 (try clear ho0)
 obtain ⟨Ao12,co12,eo12⟩:=Kd.V_slice HO109.out
 (first | subst eo12 | (injection eo12 with f1_ f2_ f3_;have f4_:=f1_.symm;have f5_:=f3_.symm;clear f1_ f2_ f3_;subst f4_;subst f5_))
 refine hK.out _ _ (HS0_) (fun hHeld=>?_)
 clear hK K
 refine nm (some 14) ?_
 refine py (i:=9) (N:=some 15) (bm 11 1023) ?_
 refine one_ (i:=10) (N:=none) (bm 11 2047) rfl rfl (one_of HT_.out k_r) d_c (fun K hK=>?_)
 have hs13:w11.cell? ⟨gb101,0,none⟩ = some (.int .i64 0):=(blk_cell BK101.out 0).trans rfl
 have hfs13:=blk_frozen BK101.out 0
 have hs14:w11.cell? ⟨gb101,1,none⟩ = some (.int .i64 0):=(blk_cell BK101.out 1).trans rfl
 have hfs14:=blk_frozen BK101.out 1
 have hs15:w11.cell? ⟨gb101,2,none⟩ = some (.slice none 0 0):=(blk_cell BK101.out 2).trans rfl
 have hfs15:=blk_frozen BK101.out 2
 refine skip_ (w1:=?_) (by rfl) rfl ?_ ?_
 rotate_left
 ·go_simp
  rfl
 refine hK.out _ _ (((cell_far (p:=⟨gb101,_,none⟩) aq45 _).trans (((cell_far (p:=⟨gb101,_,none⟩) aq45 _).trans (((cell_far (p:=⟨gb101,_,none⟩) aq45 _).trans (hHeld))))))) (fun hHeld=>?_)
 clear hK K
 refine done_ (done_of HT_.out k_r) ?_
 try go_wp2
 refine bodyPost_ret (results_cell_row rfl _ _ gb101 65 #[.int .i64 ((rdOf ByteArray.empty t102 0).size:Int),.int .i64 (t102.length:Int),.slice Ao12 t107.length co12] (0,0) _ rfl (by (with_reducible repeat (first | refine blk_drewN ?_ _ | refine blk_drew ?_ | refine blk_alloc ?_ _));refine blk_put (cs:=#[.int .i64 ((rdOf ByteArray.empty t102 0).size:Int),.int .i64 (t102.length:Int),.slice none 0 0]) ?_ 2 _ rfl;(with_reducible repeat (first | refine blk_drewN ?_ _ | refine blk_drew ?_ | refine blk_alloc ?_ _));refine blk_put (cs:=#[.int .i64 ((rdOf ByteArray.empty t102 0).size:Int),.int .i64 0,.slice none 0 0]) ?_ 1 _ rfl;(with_reducible repeat (first | refine blk_drewN ?_ _ | refine blk_drew ?_ | refine blk_alloc ?_ _));refine blk_put (cs:=#[.int .i64 0,.int .i64 0,.slice none 0 0]) ?_ 0 _ rfl;(with_reducible repeat (first | refine blk_drewN ?_ _ | refine blk_drew ?_ | refine blk_alloc ?_ _));exact BK101.out) Tryz.underlying65 rfl k_r) rfl ?_
 exact ⟨_,aq8,by (with_reducible repeat (first | apply Kd.V_alloc | apply Kd.V_drewN | apply Kd.V_drew));exact Kd.V_mono (Kd.V_far (p:=⟨gb101,2,none⟩) (Kd.V_far (p:=⟨gb101,1,none⟩) (Kd.V_far (p:=⟨gb101,0,none⟩) (Kd.V_mono HO109.out (fun k_ hk=>(⟨hk,hk.2.2⟩:_ ∧ k_ ≠ gb101))) (fun _ hk=>hk.2) (.int .i64 ((rdOf ByteArray.empty t102 0).size:Int))) (fun _ hk=>hk.2) (.int .i64 (t102.length:Int))) (fun _ hk=>hk.2) (.slice Ao12 t107.length co12)) (fun _ hk=>hk.1.1),aq0⟩
end Go.Proofs.YtldhkbiomingbaaGreatDoor.F

namespace Go.Proofs.YtldhkbiomingbaaGreatDoor.F
open Go.RowKit Go.Proofs.YtldhkbiomingbaaGreatDoor Go.YW.PrintWords
theorem tyGrid_some {l:List Int} {w h:Nat} {cs:List Int} (hg:tyGrid l = some (w,h,cs)) :
  (1 ≤ w ∧ w ≤ 7) ∧ (1 ≤ h ∧ h ≤ 7) ∧ cs.length = w * h ∧ w * h ≤ 36 ∧ l.length ≤ 42 ∧ cs = (rowsI 47 l).flatten ∧ w = ((rowsI 47 l).headD []).length ∧ h = (rowsI 47 l).length:=by
 have hs:rowsTray l:=(tyGrid_iff l).1 (by rw [hg];rfl)
 unfold tyGrid at hg
 split at hg
 ·cases hg
 rename_i h42
 cases hr:rowsI 47 l with
 | nil=>exact absurd hr (rowsI_ne _ _)
 | cons r rs =>
  rw [tyGo_start l r rs hr] at hg
  unfold rowsTray at hs
  rw [hr] at hs
  by_cases hc:0 < r.length ∧ rowsGood r.length (r :: rs)
  rotate_left
  ·rw [if_neg hc] at hg
   cases hg
  rw [if_pos hc] at hg
  simp only at hg
  split at hg
  ·rename_i hd
   injection hg with hg
   simp only [Prod.mk.injEq] at hg
   obtain ⟨rfl,rfl,rfl⟩:=hg
   have hf:=rowsGood_flatten hc.2
   simp only [List.length_cons] at hf
   simp only [List.headD_cons,List.length_cons] at hs ⊢
   refine ⟨hs.1,hs.2.1,hf,hs.2.2.1,by omega,?_⟩
   simp
  ·cases hg
theorem join_nil:∀ xs:List (List UInt8),Lib.join xs [] = xs.flatten
 | []=>rfl
 | [a]=>by simp [Lib.join,List.intercalate]
 | a :: b :: l=>by
  have ih:=join_nil (b :: l)
  unfold Lib.join List.intercalate at ih ⊢
  rw [List.intersperse,List.flatten_cons,List.flatten_cons,ih]
  ·simp
  all_goals simp
theorem impl_read_eq (s:ByteArray) {w h:Nat} {cs:List Int} (hg:tyGrid (bytesOf s) = some (w,h,cs)):impl_read.f s = some ((w:Int),(h:Int),cs):=by
 obtain ⟨hw,hh,hl,h36,h42,hcs,hwr,hhr⟩:=tyGrid_some hg
 rw [bytesOf_length] at h42
 have hsp:strings_Split.f s (⟨#[47]⟩:ByteArray) = some (rowsB 47 s):=if_pos ⟨by omega,rfl⟩
 have hmap:(rowsB 47 s).map bytesOf = rowsI 47 (bytesOf s):=rowsB_bytes 47 s
 have hjl:(Lib.join ((rowsB 47 s).map (·.data.toList)) []) = ((rowsB 47 s).map (·.data.toList)).flatten:=join_nil _
 have hbj:bytesOf (joinB (rowsB 47 s) ⟨#[]⟩) = cs:=by
  unfold joinB
  show ((Lib.join ((rowsB 47 s).map (·.data.toList)) []).map fun b:UInt8=>(b.toNat:Int)) = cs
  rw [hjl,List.map_flatten,List.map_map,hcs,← hmap]
  rfl
 have hjs:(joinB (rowsB 47 s) ⟨#[]⟩).size = w * h:=by rw [← bytesOf_length,hbj,hl]
 have hrl:(rowsB 47 s).length = h:=by rw [hhr,← hmap,List.length_map]
 have hjoin:strings_Join.f (rowsB 47 s) (⟨#[]⟩:ByteArray) = some (joinB (rowsB 47 s) ⟨#[]⟩):=by
  refine if_pos ⟨by omega,?_⟩
  have:(Lib.join ((rowsB 47 s).map (·.data.toList)) ([]:List UInt8)).length = w * h:=by
   rw [← hjs];rfl
  show (Lib.join ((rowsB 47 s).map (·.data.toList)) ([]:List UInt8)).length ≤ _
  omega
 have hr0:((rdOf ByteArray.empty (rowsB 47 s) 0).size:Int) = w:=by
  rw [hwr,← hmap]
  cases hrb:rowsB 47 s with
  | nil=>rw [hrb] at hrl;simp at hrl;omega
  | cons a t =>
   show ((a.size:Nat):Int) = _
   simp [bytesOf_length]
 rw [impl_read.f,hsp,Option.bind_some,if_pos o_m,hjoin,Option.bind_some,conv_bytes.f,if_pos o_m,Option.bind_some,hr0,hrl,hbj]
end Go.Proofs.YtldhkbiomingbaaGreatDoor.F

namespace Go.Proofs.YtldhkbiomingbaaGreatDoor.F
open Go.Proofs.YtldhkbiomingbaaGreatDoor
open Go.RowKit Go.YW.PrintWords Go.YW.PrintLast Go.YW.PrintMore
attribute [local go_sem] max2_int min2_int max_two min_two max_three min_three max_four min_four
def slices_Index_byte_byte.l0:Nat → List Int → Int → Int → Int → Option (Int)
 | 0,_,_,_,_=>none
 | k + 1,x0,x1,x7,x8=>if x8 < x7 then (if 0 ≤ x8 then (if x8 < (x0.length:Int) then (if x1 = (rd x0 x8) then (some x8) else (slices_Index_byte_byte.l0 k x0 x1 x7 (wrap64 (x8 + 1)))) else (none)) else (none)) else (some (-1))
def slices_Index_byte_byte.f (k:Nat) (l0:List Int) (a1:Int):Option (Int):=slices_Index_byte_byte.l0 k l0 a1 (l0.length:Int) 0
theorem slices_Index_byte_byte.mono_l:∀ k,(∀ y0 y1 y2 y3,LeO (slices_Index_byte_byte.l0 k y0 y1 y2 y3) (slices_Index_byte_byte.l0 (k + 1) y0 y1 y2 y3))
 | 0=>fun _ _ _ _ r h=>by simp [slices_Index_byte_byte.l0] at h
 | k + 1=>by
  have ih0:=slices_Index_byte_byte.mono_l k
  ·intro y0 y1 y2 y3
   unfold slices_Index_byte_byte.l0
   exact mo
theorem slices_Index_byte_byte.mono:∀ a0 a1 k,LeO (slices_Index_byte_byte.f k a0 a1) (slices_Index_byte_byte.f (k + 1) a0 a1):=by
 intro a0 a1 k
 have ih0:=slices_Index_byte_byte.mono_l k
 unfold slices_Index_byte_byte.f
 exact mo
theorem slices_Index_byte_byte.calls (k:Nat) (A0:Option Addr) (c0:Nat) (l0:List Int) (a1:Int) (r:Int) (w:World) (hr0:Kd.C (Kd.int .u8) w A0 l0.length l0) (hc0:l0.length ≤ c0) (h:slices_Index_byte_byte.f k l0 a1 = some r) :
  Calls Tryz.prog 89 #[.slice A0 l0.length c0,.int .u8 a1] w fun e w'=>e = .returned (.int .i64 r) ∧ Drawn0 w w':=by
 have HR0:=am hr0
 have HC0:=am hc0
 clear hr0 hc0
 have H:(slices_Index_byte_byte.l0 k l0 a1 (l0.length:Int) 0) = some r:=h
 clear h
 have H':=am H
 clear H
 go_enter Tryz.func89,Tryz.ntmps89
 go_wp2
 go_loopg [8] k (fun kq v8 w'=>∃ (x8_1:Int),v8 = .int .i64 x8_1 ∧ Aside0 (slices_Index_byte_byte.l0 kq l0 a1 (l0.length:Int) x8_1 = some r) ∧ Aside0 (kq ≤ k) ∧ Drawn0 w w')
 case atStart=>exact ⟨(0),aq7,H',⟨Nat.le_refl _⟩,aq20⟩
 case round =>
  clear H'
  try clear p2
  obtain ⟨x8_1,rfl,HA,HK1,⟨m1,rfl⟩⟩:=hrel
  cases gk with
  | zero=>exact absurd HA.out (by simp [slices_Index_byte_byte.l0])
  | succ k1 =>
   have H:=HA.out
   clear HA
   simp only [slices_Index_byte_byte.l0] at H
   by_cases c3:x8_1 < (l0.length:Int)
   rotate_left
   ·rw [if_neg c3] at H
    have c3b0:=decide_eq_false c3
    clear c3
    obtain rfl:=Option.some.inj H
    go_wp2
    go_ret
    exact ⟨aq7,aq20⟩
   rw [if_pos c3] at H
   have c3b0:=decide_eq_true c3
   clear c3
   replace H:=gd H
   obtain ⟨c4,H⟩:=H
   have c4b0:=decide_eq_true c4
   clear c4
   replace H:=gd H
   obtain ⟨c5,H⟩:=H
   have c5b0:=decide_eq_true c5
   clear c5
   by_cases c6:a1 = (rd l0 x8_1)
   ·rw [if_pos c6] at H
    have c6b0:=beq_iff_eq.mpr c6
    have c6b1:=bne_eq_false_iff_eq.mpr c6
    clear c6
    obtain rfl:=Option.some.inj H
    have p101:0 ≤ (x8_1:Int):=of_decide_eq_true aq4
    have q101:x8_1 < (l0.length:Int):=of_decide_eq_true aq4
    obtain ⟨ad101,e101,hx101_0⟩:=Kd.at_int HR0.out x8_1 p101 q101
    cases e101
    replace p101:=eq_true p101
    replace q101:=eq_true q101
    go_wp2
    go_ret
    exact ⟨aq7,aq20⟩
   rw [if_neg c6] at H
   have c6b0:=beq_eq_false_iff_ne.mpr c6
   have c6b1:=bne_iff_ne.mpr c6
   have H':=am H
   clear H
   have p101:0 ≤ (x8_1:Int):=of_decide_eq_true aq4
   have q101:x8_1 < (l0.length:Int):=of_decide_eq_true aq4
   obtain ⟨ad101,e101,hx101_0⟩:=Kd.at_int HR0.out x8_1 p101 q101
   cases e101
   replace p101:=eq_true p101
   replace q101:=eq_true q101
   go_wp2
   go_roundg k1
   case measure=>have:=HK1.out;omega
   case rel=>exact ⟨(wrap64 (x8_1 + 1)),aq7,H',⟨aq70⟩,aq20⟩
def impl_cellOf.j0:Nat → ByteArray → ByteArray → Bool → Option (Int × Bool)
 | 0,_,_,_=>none
 | k + 1,x0,x1,x20=>if x20 = true then (some (0,false)) else ((impl_read.f x0).bind fun bt103=>(if 0 < (x1.size:Int) then ((slices_Index_byte_byte.f k bt103.2.2 (bt x1 0)).bind fun t108=>(some (t108,decide (t108 ≥ 0)))) else (none)))
def impl_cellOf.f (k:Nat) (a0:ByteArray) (a1:ByteArray):Option (Int × Bool):=(impl_IsTray.f k a0).bind fun t101=>(if t101 = true then (if (a1.size:Int) = 1 then (if 0 < (a1.size:Int) then ((impl_isName.f (bt a1 0)).bind fun t102=>(impl_cellOf.j0 k a0 a1 (!t102))) else (none)) else (impl_cellOf.j0 k a0 a1 true)) else (impl_cellOf.j0 k a0 a1 true))
theorem impl_cellOf.mono_l:∀ k,(∀ y0 y1 y2,LeO (impl_cellOf.j0 k y0 y1 y2) (impl_cellOf.j0 (k + 1) y0 y1 y2))
 | 0=>fun _ _ _ r h=>by simp [impl_cellOf.j0] at h
 | k + 1=>by
  have ih0:=impl_cellOf.mono_l k
  ·intro y0 y1 y2
   unfold impl_cellOf.j0
   have im0:=@impl_IsTray.mono;have im1:=@slices_Index_byte_byte.mono;exact mo
theorem impl_cellOf.mono:∀ a0 a1 k,LeO (impl_cellOf.f k a0 a1) (impl_cellOf.f (k + 1) a0 a1):=by
 intro a0 a1 k
 have ih0:=impl_cellOf.mono_l k
 unfold impl_cellOf.f
 have im0:=@impl_IsTray.mono;have im1:=@slices_Index_byte_byte.mono;exact mo
theorem impl_cellOf.calls (k:Nat) (a0:ByteArray) (a1:ByteArray) (r1:Int) (r2:Bool) (w:World) (h:impl_cellOf.f k a0 a1 = some (r1,r2)) :
  Calls Tryz.prog 88 #[.string a0,.string a1] w fun e w'=>e = .returned (.tuple #[.int .i64 r1,.bool r2]) ∧ Below w.heap.size w w':=by
 have hfd65_2:∀ (x0_ x1_ x2_:Value) (W:World),(Instr.field 65 (.agg #[x0_,x1_,x2_]) 2).run Tryz.prog W = .ok x2_ W:=fun _ _ _  _=>by kernel_rfl
 have HB:=am (Below.refl w.heap.size w)
 have H:((impl_IsTray.f k a0).bind fun t101=>(if t101 = true then (if (a1.size:Int) = 1 then (if 0 < (a1.size:Int) then ((impl_isName.f (bt a1 0)).bind fun t102=>(impl_cellOf.j0 k a0 a1 (!t102))) else (none)) else (impl_cellOf.j0 k a0 a1 true)) else (impl_cellOf.j0 k a0 a1 true))) = some (r1,r2):=h
 clear h
 have HC3:=am H
 clear H
 go_enter Tryz.func88,Tryz.ntmps88
 go_upto_region 1 with (fail)
 go_cut [20] (fun v20 wc=>∃ (kq:Nat) (x20_2:Bool),v20 = .bool x20_2 ∧ Aside0 (impl_cellOf.j0 kq a0 a1 x20_2 = some (r1,r2)) ∧ Aside0 (kq ≤ k) ∧ Aside0 (Below w.heap.size w wc))
 case first =>
  have H:=HC3.out
  clear HC3
  obtain ⟨t101,A4,H⟩:=bn H
  by_cases c5:t101 = true
  rotate_left
  ·replace c5:=Bool.eq_false_iff.mpr c5
   subst c5
   rw [if_neg Bool.false_ne_true] at H
   have H':=am H
   clear H
   go_wp2_with (first | ((with_reducible refine gate_callee (f:=102) rfl ?_);refine goesL_ (some 8) rfl rfl Tryz.func102 k_r rfl #[.string a0] rfl aq6 ?_;(with_reducible refine (impl_IsTray.calls k a0 false _ A4.out).mono ?_);rintro e w12 ⟨rfl,hb⟩;refine ⟨_,rfl,?_⟩;replace HB:=am (below_step aq2 hb);(try clear hb)))
   go_meet
   case rel=>exact ⟨_,(true),aq7,H',⟨aq110⟩,⟨aq2⟩⟩
  subst c5
  rw [if_pos rfl] at H
  by_cases c6:(a1.size:Int) = 1
  rotate_left
  ·rw [if_neg c6] at H
   have c6b0:=beq_eq_false_iff_ne.mpr c6
   have c6b1:=bne_iff_ne.mpr c6
   (first | rw [c6b0] | (simp only [i64_w,i32_w];rw [c6b0]) | skip)
   have H':=am H
   clear H
   go_wp2_with (first | ((with_reducible refine gate_callee (f:=102) rfl ?_);refine goesL_ (some 8) rfl rfl Tryz.func102 k_r rfl #[.string a0] rfl aq6 ?_;(with_reducible refine (impl_IsTray.calls k a0 true _ A4.out).mono ?_);rintro e w11 ⟨rfl,hb⟩;refine ⟨_,rfl,?_⟩;replace HB:=am (below_step aq2 hb);(try clear hb)))
   go_meet
   case rel=>exact ⟨_,(true),aq7,H',⟨aq110⟩,⟨aq2⟩⟩
  rw [if_pos c6] at H
  have c6b0:=beq_iff_eq.mpr c6
  have c6b1:=bne_eq_false_iff_eq.mpr c6
  clear c6
  (first | rw [c6b0] | (simp only [i64_w,i32_w];rw [c6b0]) | skip)
  replace H:=gd H
  obtain ⟨c7,H⟩:=H
  have c7b0:=decide_eq_true c7
  have c7b1:decide (0 < a1.size) = true:=decide_eq_true o_m
  clear c7
  obtain ⟨t102,A9,H⟩:=bn H
  have H':=am H
  clear H
  go_wp2_with (first | ((with_reducible refine gate_callee (f:=102) rfl ?_);refine goesL_ (some 8) rfl rfl Tryz.func102 k_r rfl #[.string a0] rfl aq6 ?_;(with_reducible refine (impl_IsTray.calls k a0 true _ A4.out).mono ?_);rintro e w10 ⟨rfl,hb⟩;refine ⟨_,rfl,?_⟩;replace HB:=am (below_step aq2 hb);(try clear hb);have p8:0 ≤ (0:Int):=o_m;have q8:0 < a1.size:=(by have:(0:Int) < (a1.size:Int):=of_decide_eq_true aq4;omega);have hx8:∀ h:0 < a1.size,((a1[0]'h).toNat:Int) = bt a1 0:=bt_at a1 0;clear p8;have qi8:(0 < (a1.size:Int)) = True:=eq_true (of_decide_eq_true aq4);replace q8:=eq_true q8) | (go_at_call 110;(with_reducible refine (impl_isName.calls (bt a1 0) t102 _ A9.out).mono ?_);rintro e w' ⟨rfl,⟨nd,rfl⟩⟩))
  go_meet
  case rel=>exact ⟨_,(!t102),aq7,H',⟨aq110⟩,⟨aq2⟩⟩
 case rest =>
  clear HC3
  try clear c1
  try clear p2
  try clear c5
  try clear c6
  try clear c6b0
  try clear c6b1
  try clear c7
  try clear c7b0
  try clear c7b1
  try clear c8
  try clear p8
  try clear q8
  try clear hx8
  try clear qi8
  try clear c10
  try clear p8
  try clear q8
  obtain ⟨kq,x20_2,rfl,HA,HJ2,HB⟩:=hcut
  cases kq with
  | zero=>exact absurd HA.out (by simp [impl_cellOf.j0])
  | succ kj2 =>
   have H:=HA.out
   clear HA
   simp only [impl_cellOf.j0] at H
   by_cases c13:x20_2 = true
   ·subst c13
    rw [if_pos rfl] at H
    simp only [Option.some.injEq,Prod.mk.injEq] at H
    obtain ⟨rfl,rfl⟩:=H
    go_wp2
    go_ret2
    exact ⟨aq8,aq2⟩
   replace c13:=Bool.eq_false_iff.mpr c13
   subst c13
   rw [if_neg Bool.false_ne_true] at H
   replace H:=Option.bind_eq_some_iff.mp H
   obtain ⟨⟨t103,t104,t105⟩,A140,H⟩:=H
   replace H:(if 0 < (a1.size:Int) then ((slices_Index_byte_byte.f kj2 t105 (bt a1 0)).bind fun t108=>(some (t108,decide (t108 ≥ 0)))) else (none)) = some (r1,r2):=H
   have A14:=am A140
   clear A140
   replace H:=gd H
   obtain ⟨c15,H⟩:=H
   have c15b0:=decide_eq_true c15
   have c15b1:decide (0 < a1.size) = true:=decide_eq_true o_m
   clear c15
   obtain ⟨t108,A17,H⟩:=bn H
   simp only [Option.some.injEq,Prod.mk.injEq] at H
   obtain ⟨rfl,rfl⟩:=H
   try go_wp2
   replace HB:=am (below_drew1 HB.out)
   have p16:0 ≤ (0:Int):=o_m
   have q16:0 < a1.size:=(by have:(0:Int) < (a1.size:Int):=of_decide_eq_true aq4;omega)
   have hx16:∀ h:0 < a1.size,((a1[0]'h).toNat:Int) = bt a1 0:=bt_at a1 0
   clear p16
   have qi16:(0 < (a1.size:Int)) = True:=eq_true (of_decide_eq_true aq4)
   replace q16:=eq_true q16
   refine start_ (n:=7) (S:=fun w'=>True) (ds:=[]) (bm 7 0) k_r rfl rfl trivial (fun hHeld=>?_)
   generalize wc.drew = w18 at HB hHeld ⊢
   refine py0 (i:=0) (N:=some 21) (bm 7 1) ?_
   refine py0 (i:=3) (N:=some 24) (bm 7 9) ?_
   refine tkk1 (i:=4) (N:=some 25) (bm 7 25) hHeld ?_
   refine one_ (i:=1) (N:=some 22) (bm 7 27) rfl rfl k_r d_c (fun K hK=>?_)
   refine goes_ Tryz.func51 k_r rfl #[.string a0] (by rfl) rfl rfl aq6 ?_
   with_reducible refine (impl_read.calls a0 t103 t104 t105 _ A14.out).mono ?_
   rintro e w19 ⟨v106,rfl,ho0,hb⟩
   refine ⟨_,rfl,?_⟩
   have HO107:=am (Kd.V_lower (Kd.V_mono (ok':=fun k_=>True) ho0 (fun k_ hk_=>trivial)) (below_size aq2))
   replace HB:=am (below_step aq2 hb)
   (try clear hb)
   (try clear ho0)
   obtain ⟨Ao20,co20,eo20⟩:=Kd.V_slice HO107.out
   (first | subst eo20 | (injection eo20 with f1_ f2_ f3_;have f4_:=f1_.symm;have f5_:=f3_.symm;clear f1_ f2_ f3_;subst f4_;subst f5_))
   refine hK.out _ _ trivial (fun hHeld=>?_)
   clear hK K
   refine nm (some 22) ?_
   refine py0 (i:=2) (N:=some 23) (bm 7 31) ?_
   refine one_ (i:=5) (N:=some 26) (bm 7 63) rfl rfl k_r d_c (fun K hK=>?_)
   refine goes_ Tryz.func89 k_r rfl #[.slice Ao20 t105.length co20,.int .u8 (bt a1 0)] (by rfl) rfl rfl aq6 ?_
   with_reducible refine (slices_Index_byte_byte.calls kj2 _ _ t105 (bt a1 0) t108 _ ?side1 ?side2 A17.out).mono ?_
   (case side1=>repeat (first | exact (Kd.V_reads' HO107.out).2.2 | (with_reducible refine Kd.C_alloc ?_ _) | (with_reducible refine Kd.C_drewN ?_ _) | (with_reducible refine Kd.C_drew ?_)))
   (case side2=>exact (Kd.V_reads' HO107.out).2.1)
   rintro e w' ⟨rfl,⟨nd,rfl⟩⟩
   refine ⟨_,rfl,?_⟩
   refine hK.out _ _ trivial (fun hHeld=>?_)
   clear hK K
   refine nm (some 26) ?_
   refine py0 (i:=6) (N:=some 6) (bm 7 127) ?_
   refine done_ k_r ?_
   try go_wp2
   go_ret2
   exact ⟨aq8,aq2⟩
end Go.Proofs.YtldhkbiomingbaaGreatDoor.F

namespace Go.Proofs.YtldhkbiomingbaaGreatDoor.F
open Go.RowKit Go.Proofs.YtldhkbiomingbaaGreatDoor Go.YW.PrintWords
theorem isName_eq (c:Int):impl_isName.f c = some (isNameC c):=by
 unfold impl_isName.f isNameC
 by_cases h:c ≥ 97
 rotate_left
 ·rw [if_neg h];simp [show ¬ 97 ≤ c from h]
 rw [if_pos h];simp [show 97 ≤ c from h]
def firstAt (cs:List Int) (c:Int):Nat:=cs.findIdx (· == c)
theorem first_split {cs:List Int} {c:Int} {i:Nat} (h:∀ j,j < i → ∀ hj:j < cs.length,cs[j] ≠ c) (hi:i < cs.length) (he:cs[i] = c):firstAt cs c = i:=by
 unfold firstAt
 rw [List.findIdx_eq hi]
 refine ⟨by rw [he];exact beq_self_eq_true _,fun j hj=>?_⟩
 have:=h j hj o_m
 simpa using this
theorem first_none {cs:List Int} {c:Int} (h:∀ j,∀ hj:j < cs.length,cs[j] ≠ c):firstAt cs c = cs.length:=by
 unfold firstAt
 rw [List.findIdx_eq_length]
 intro x hx
 obtain ⟨j,hj,rfl⟩:=List.getElem_of_mem hx
 have:=h j hj
 simpa using this
theorem index_l0 {cs:List Int} (hl:cs.length ≤ 1000) (c:Int):∀ (d i:Nat),i + d = cs.length → (∀ j,j < i → ∀ hj:j < cs.length,cs[j] ≠ c) →
  Ev (fun k=>slices_Index_byte_byte.l0 k cs c (cs.length:Int) i) (if firstAt cs c < cs.length then (firstAt cs c:Int) else -1)
 | 0,i,hi,hn=>by
  obtain rfl:i = cs.length:=by omega
  rw [first_none (fun j hj=>hn j hj hj),if_neg o_m]
  refine Ev.step (f:=fun _=>some (-1)) (fun k=>?_) (Ev.now _)
  rw [slices_Index_byte_byte.l0,if_neg o_m]
 | d + 1,i,hi,hn=>by
  have hlt:i < cs.length:=by omega
  have hrd:rd cs (i:Int) = cs[i]:=by unfold rd;rw [Int.toNat_natCast,List.getD_eq_getElem?_getD,List.getElem?_eq_getElem hlt];rfl
  by_cases he:c = cs[i]
  ·rw [first_split hn hlt he.symm,if_pos hlt]
   refine Ev.step (f:=fun _=>some (i:Int)) (fun k=>?_) (Ev.now _)
   rw [slices_Index_byte_byte.l0,if_pos o_m,if_pos o_m,if_pos o_m,hrd,if_pos he]
  have ih:=index_l0 hl c d (i + 1) o_m (fun j hj hj'=>by
   by_cases e:j = i
   ·subst e;exact fun h=>he h.symm
   ·exact hn j o_m hj')
  refine Ev.step (fun k=>?_) ih
  rw [slices_Index_byte_byte.l0,if_pos o_m,if_pos o_m,if_pos o_m,hrd,if_neg he,show (i:Int) + 1 = ((i + 1:Nat):Int) by omega,w64t o_m]
def oneName (c:ByteArray):Bool:=decide (c.size = 1) && isNameC (bt c 0)
def cellOfAns (s c:ByteArray):Int × Bool:=match tyGrid (bytesOf s) with
 | none=>(0,false)
 | some g=>if oneName c = true then (if firstAt g.2.2 (bt c 0) < g.2.2.length then ((firstAt g.2.2 (bt c 0):Int),true) else (-1,false)) else (0,false)
theorem impl_cellOf_ev (s c:ByteArray) (hs:s.size < 4294967281):Ev (fun k=>impl_cellOf.f k s c) (cellOfAns s c):=by
 have h1:=impl_IsTray_ev s hs
 have hno:Ev (fun k=>impl_cellOf.j0 k s c true) (0,false) :=
  Ev.step (f:=fun _=>some (0,false)) (fun k=>by rw [impl_cellOf.j0,if_pos rfl]) (Ev.now _)
 unfold cellOfAns
 cases hg:tyGrid (bytesOf s) with
 | none =>
  rw [hg] at h1
  exact Ev.bind h1 (Ev.congr (fun k=>if_neg (by simp)) hno)
 | some g =>
  rw [hg] at h1
  obtain ⟨v,_⟩:=textB_grid hg
  obtain ⟨w,h,cs⟩:=g
  refine Ev.bind h1 (Ev.congr (fun k=>if_pos rfl) ?_)
  unfold oneName
  by_cases hc:c.size = 1
  rotate_left
  ·refine Ev.congr (fun k=>by rw [if_neg (show ¬ (c.size:Int) = 1 by omega)]) ?_
   simp only [hc,decide_false,Bool.false_and,Bool.false_eq_true,if_false]
   exact hno
  refine Ev.congr (fun k=>by rw [if_pos (show (c.size:Int) = 1 by omega),if_pos (show 0 < (c.size:Int) by omega),isName_eq,Option.bind_some]) ?_
  cases hn:isNameC (bt c 0) with
  | false=>simp only [hc,decide_true,Bool.true_and,Bool.false_eq_true,if_false];exact hno
  | true =>
   have hl:cs.length ≤ 1000:=by rw [show cs.length = w * h from v.len];have:=v.small;simp only at this;omega
   have h2:=index_l0 hl (bt c 0) cs.length 0 o_m (fun j hj=>by omega)
   simp only [hc,decide_true,Bool.true_and,if_true]
   refine Ev.step (f:=fun k=>(slices_Index_byte_byte.f k cs (bt c 0)).bind fun t108=>(some (t108,decide (t108 ≥ 0)))) (fun k=>?_) ?_
   ·rw [impl_cellOf.j0,if_neg (by simp),impl_read_eq s hg,Option.bind_some,if_pos o_m]
   ·refine Ev.bind h2 ?_
    refine Ev.congr (fun k=>?_) (Ev.now _)
    by_cases hf:firstAt cs (bt c 0) < cs.length
    rotate_left
    ·rw [if_neg hf,if_neg hf];simp
    rw [if_pos hf,if_pos hf];simp
end Go.Proofs.YtldhkbiomingbaaGreatDoor.F

namespace Go.Proofs.YtldhkbiomingbaaGreatDoor
open Go.RowKit Go.Maps
def litS (b:ByteArray):Lit:=.string b.data.toList
theorem litS_inj {a b:ByteArray} (h:litS a = litS b):a = b:=by
 unfold litS at h
 injection h with h
 apply ByteArray.ext
 exact Array.toList_inj.1 h
theorem litS_key (a:ByteArray):WideAt.IsKeyLit (litS a):=trivial
def placesD (L:List ByteArray):DataW Unit:=L.zipIdx.foldl (fun D p=>D.put (litS p.1) (.lit (litN p.2))) (.map [])
theorem placesD_snoc (L:List ByteArray) (x:ByteArray):placesD (L ++ [x]) = (placesD L).put (litS x) (.lit (litN L.length)):=by
 unfold placesD
 rw [List.zipIdx_append,List.foldl_append,Nat.zero_add];rfl
theorem placesD_isMap (L:List ByteArray):IsMap (placesD L):=by
 refine snoc_ind (P:=fun m=>IsMap (placesD m)) isMap_empty (fun l a h=>?_) L
 show IsMap (placesD (l ++ [a]))
 rw [placesD_snoc];exact h.put _ _
theorem has_places (L:List ByteArray) (x:ByteArray):Maps.has (placesD L) (litS x) = true ↔ x ∈ L:=by
 refine snoc_ind (P:=fun m=>Maps.has (placesD m) (litS x) = true ↔ x ∈ m) ⟨fun h=>(by cases h),fun h=>(by cases h)⟩ (fun l a h=>?_) L
 show Maps.has (placesD (l ++ [a])) (litS x) = true ↔ _
 rw [placesD_snoc]
 by_cases e:x = a
 rotate_left
 ·rw [has_put_other (fun q=>e (litS_inj q)),h];simp [e]
 subst e
 rw [has_put_same (placesD_isMap l) (litS_key _)];simp
theorem at_places {L:List ByteArray} (hn:L.Nodup) {i:Nat} (hi:i < L.length) (z:DataW Unit):(placesD L).atKey (litS (L[i]'hi)) z = .lit (litN i):=by
 revert hn i
 refine snoc_ind (P:=fun m=>m.Nodup → ∀ {i:Nat} (hi:i < m.length),(placesD m).atKey (litS (m[i]'hi)) z = .lit (litN i)) (fun _ i hi=>by simp at hi) (fun l a ih hn i hi=>?_) L
 show (placesD (l ++ [a])).atKey (litS ((l ++ [a])[i]'hi)) z = _
 rw [placesD_snoc]
 rw [List.nodup_append] at hn
 by_cases e:i < l.length
 ·rw [List.getElem_append_left e]
  rw [atKey_put_other (fun q=>hn.2.2 _ (List.getElem_mem e) a (by simp) (litS_inj q))]
  exact ih hn.1 e
 have hi':i = l.length:=by simp at hi;omega
 subst hi'
 rw [List.getElem_append_right (Nat.le_refl _)]
 simp only [Nat.sub_self,List.getElem_singleton]
 exact atKey_put_same (placesD_isMap l) (litS_key _) _ _
end Go.Proofs.YtldhkbiomingbaaGreatDoor

namespace Go.Proofs.YtldhkbiomingbaaGreatDoor
def isDirC (c:Int):Bool:=c == 117 || c == 114 || c == 100 || c == 108
def dirIx (c:Int):Int:=if c = 117 then 0 else if c = 114 then 1 else if c = 100 then 2 else if c = 108 then 3 else -1
def dirB (d:Nat):Int:=if d = 0 then 117 else if d = 1 then 114 else if d = 2 then 100 else 108
theorem dirB_ix {c:Int} (h:isDirC c = true):dirB (dirIx c).toNat = c ∧ (dirIx c).toNat < 4 ∧ 0 ≤ dirIx c:=by
 have:c = 117 ∨ c = 114 ∨ c = 100 ∨ c = 108:=by
  unfold isDirC at h
  simp at h
  omega
 rcases this with rfl | rfl | rfl | rfl <;> exact ⟨rfl,by decide,by decide⟩
end Go.Proofs.YtldhkbiomingbaaGreatDoor

namespace Go.Proofs.YtldhkbiomingbaaGreatDoor.F
open Go.RowKit Go.Proofs.YtldhkbiomingbaaGreatDoor Go.YW.PrintWords Go.YW.PrintMore
def txtW (u:List Nat):ByteArray:=strOfNums (u.map dirB)
theorem txtW_size (u:List Nat):(txtW u).size = u.length:=by unfold txtW;rw [strOfNums_len,List.length_map]
theorem txtW_snoc (u:List Nat) (d:Nat):txtW (u ++ [d]) = txtW u ++ strOfNums [dirB d]:=by
 unfold txtW;rw [List.map_append,strOfNums_app];rfl
def srch (t:ByteArray):Option (Nat × Nat × RS):=match tyGrid (bytesOf t) with
 | none=>none
 | some (w,h,cs)=>(reachD w h cs).map fun s=>(w,h,s)
theorem srch_some {t:ByteArray} {w h:Nat} {s:RS} (e:srch t = some (w,h,s)):∃ cs,tyGrid (bytesOf t) = some (w,h,cs) ∧ Vg (w,h,cs) ∧ textB (w,h,cs) = t ∧ reachD w h cs = some s ∧ RS.Ok2 w h cs s.T.length s:=by
 unfold srch at e
 cases hg:tyGrid (bytesOf t) with
 | none=>rw [hg] at e;cases e
 | some g =>
  obtain ⟨w',h',cs⟩:=g
  rw [hg] at e
  obtain ⟨s',hs,e⟩:=Option.map_eq_some_iff.1 (show (reachD w' h' cs).map (fun s=>(w',h',s)) = some (w,h,s) from e)
  injection e with e1 e2
  injection e2 with e2 e3
  subst e1 e2 e3
  obtain ⟨v,et⟩:=textB_grid hg
  exact ⟨cs,rfl,v,et,hs,reach_ok v hs⟩
def rT (w h:Nat) (s:RS):List ByteArray:=s.T.map fun c=>textB (w,h,c)
def rW (s:RS):List ByteArray:=s.W.map txtW
theorem rT_len (w h:Nat) (s:RS):(rT w h s).length = s.T.length:=by unfold rT;rw [List.length_map]
theorem rW_len (s:RS):(rW s).length = s.W.length:=by unfold rW;rw [List.length_map]
theorem rT_nodup {w h:Nat} {cs:List Int} {s:RS} (o:RS.Ok w h cs s):(rT w h s).Nodup:=by
 unfold rT
 refine List.nodup_iff_pairwise_ne.2 ?_
 rw [List.pairwise_map]
 refine List.Pairwise.imp_of_mem ?_ (List.nodup_iff_pairwise_ne.1 o.nodup)
 intro a b ha hb hne e
 have:=textB_inj (o.tray a ha) (o.tray b hb) e
 injection this with _ this
 injection this with _ this
 exact hne this
theorem rT_mem {w h:Nat} {cs:List Int} {s:RS} (o:RS.Ok w h cs s) {c:List Int} (v:Vg (w,h,c)):textB (w,h,c) ∈ rT w h s ↔ findT s.T c < s.T.length:=by
 unfold rT findT
 rw [List.findIdx_lt_length,List.mem_map]
 constructor
 ·rintro ⟨a,ha,e⟩
  have:=textB_inj (o.tray a ha) v e
  injection this with _ this
  injection this with _ this
  subst this
  exact ⟨a,ha,beq_self_eq_true _⟩
 ·rintro ⟨a,ha,e⟩
  have:a = c:=by simpa using e
  subst this
  exact ⟨a,ha,rfl⟩
theorem findT_get {T:List (List Int)} {c:List Int} (h:findT T c < T.length):T[findT T c]'h = c:=by
 have:=List.findIdx_getElem (p:=(· == c)) (xs:=T) (w:=h)
 exact eq_of_beq this
def placeI (n:Int) (cs:List Int):Int:=if firstAt cs n < cs.length then (firstAt cs n:Int) else -1
def cellsI (s:RS) (n:Int):List Int:=s.T.map (placeI n)
theorem cellsI_len (s:RS) (n:Int):(cellsI s n).length = s.T.length:=by unfold cellsI;rw [List.length_map]
theorem cellsI_get (s:RS) (n:Int) {i:Nat} (hi:i < s.T.length):(cellsI s n).getD i 0 = placeI n (s.T.getD i []):=by
 unfold cellsI
 rw [getD_lt (by rw [List.length_map];exact hi),getD_lt hi,List.getElem_map]
end Go.Proofs.YtldhkbiomingbaaGreatDoor.F

namespace Go.Proofs.YtldhkbiomingbaaGreatDoor.F
open Go.Proofs.YtldhkbiomingbaaGreatDoor
open Go.RowKit Go.YW.PrintWords Go.YW.PrintLast Go.YW.PrintMore Go.Lib
def nodesOf (w h:Nat) (s:RS):List Node:=nodesL (fun c=>textB (w,h,c)) w h s (waysL s) []
theorem nodesOf_len (w h:Nat) (s:RS):(nodesOf w h s).length = s.T.length:=nodesL_len
theorem nodesOf_ne {w h:Nat} {cs:List Int} {s:RS} (o:RS.Ok w h cs s):nodesOf w h s ≠ []:=fun e=>by
 have:=nodesOf_len w h s
 rw [e] at this
 have:=o.pos
 simp at *
 omega
end Go.Proofs.YtldhkbiomingbaaGreatDoor.F

namespace Go.Proofs.YtldhkbiomingbaaGreatDoor
open Go.RowKit Go.YW.PrintWords Go.YW.PrintLast Go.YW.PrintMore Go.Lib Go.Shelf
def inR (lo hi x:Int):Bool:=decide (lo ≤ x) && decide (x ≤ hi)
theorem within_calls (a0 a1 a2:Int) (w:World) :
  Calls Tryz.prog 70 #[.int .i64 a0,.int .i64 a1,.int .i64 a2] w fun e w'=>e = .returned (.bool (inR a1 a2 a0)) ∧ Drawn0 w w':=by
 unfold inR
 by_cases c4:a1 ≤ a0
 rotate_left
 ·have c4b0:decide (a1 ≤ a0) = false:=decide_eq_false c4
  rw [c4b0]
  go_enter Tryz.func70,Tryz.ntmps70
  go_wp2
  go_ret
  exact ⟨by first | rfl | (simp;done) | (simp [*];done),by repeat (first | exact Drawn0.refl _ | apply Drawn0.step)⟩
 have c4b0:decide (a1 ≤ a0) = true:=decide_eq_true c4
 rw [c4b0]
 go_enter Tryz.func70,Tryz.ntmps70
 go_wp2
 go_ret
 exact ⟨by first | rfl | (simp;done) | (simp [*];done),by repeat (first | exact Drawn0.refl _ | apply Drawn0.step)⟩
theorem notWithin_pred (lo hi:Int) (B C:Nat) (w:World) (hB:B < w.heap.size) (hC:C < w.heap.size) (h1:w.cell? ⟨B,0,none⟩ = some (.int .i64 lo)) (h2:w.cell? ⟨C,0,none⟩ = some (.int .i64 hi)) :
  PredAt Tryz.prog 191 #[.pointer (some ⟨B,0,none⟩),.pointer (some ⟨C,0,none⟩)] (Value.int .i64) (fun x=>!(inR lo hi x)) w:=fun W x hb=>by
 have hc1:W.cell? ⟨B,0,none⟩ = some (.int .i64 lo):=(hb.cell (p:=⟨B,0,none⟩) hB).trans h1
 have hc2:W.cell? ⟨C,0,none⟩ = some (.int .i64 hi):=(hb.cell (p:=⟨C,0,none⟩) hC).trans h2
 have hcall:=fun W=>within_calls x lo hi W
 show Calls Tryz.prog 191 #[.int .i64 x,.pointer (some ⟨B,0,none⟩),.pointer (some ⟨C,0,none⟩)] W _
 go_enter Tryz.func191,Tryz.ntmps191
 go_wp2_with (first | (go_at_call 70;refine (hcall _).mono ?_;rintro e w' ⟨rfl,⟨nd,rfl⟩⟩))
 all_goals (go_ret;exact ⟨by first | rfl | (simp;done) | (simp [*];done),⟨_,rfl⟩⟩)
def impl_areWithin.f (l:List Int) (lo hi:Int):Option Bool:=some (l.all (inR lo hi))
theorem impl_areWithin.calls (A0:Option Addr) (c0:Nat) (l0:List Int) (a1 a2:Int) (r:Bool) (w:World) (hr0:Kd.C (Kd.int .i64) w A0 l0.length l0) (hc0:l0.length ≤ c0) (h:impl_areWithin.f l0 a1 a2 = some r) :
  Calls Tryz.prog 159 #[.slice A0 l0.length c0,.int .i64 a1,.int .i64 a2] w fun e w'=>e = .returned (.bool r) ∧ Below w.heap.size w w':=by
 unfold impl_areWithin.f at h
 injection h with h
 subst h
 have hlen:l0.length ≤ 9223372036854775807:=hr0.2.1
 have e71:∀ args w,(callFunc 191 args).run Tryz.prog w = .ok (.enter 191 args) w:=enters_of Tryz.func191 k_r rfl
 have hcon:Calls Tryz.prog 59 #[.slice A0 l0.length c0,.func (.func 191) #[] #[.pointer (some ⟨w.heap.size,0,none⟩),.pointer (some ⟨w.heap.size + 1,0,none⟩)]] ((w.alloc (.cells #[.int .i64 a1] 3)).alloc (.cells #[.int .i64 a2] 3)) fun e w'=>e = .returned (.bool (l0.any (fun x=>!(inR a1 a2 x)))) ∧ Below w.heap.size w w':=by
  have hbw:Below w.heap.size w ((w.alloc (.cells #[.int .i64 a1] 3)).alloc (.cells #[.int .i64 a2] 3)):=below_alloc (below_alloc (Below.refl _ w) _) _
  rcases Nat.eq_zero_or_pos l0.length with h0 | h0
  ·obtain rfl:l0 = []:=List.eq_nil_of_length_eq_zero h0
   exact (Tryz.slices_ContainsFunc_empty (α:=Int) A0 c0 _ _).mono fun e w' ⟨he,hw⟩=>⟨he,hw ▸ hbw⟩
  ·obtain ⟨bk,o,rfl,hbk,hcells⟩:=C_place hr0 h0
   have hpred:=notWithin_pred a1 a2 w.heap.size (w.heap.size + 1) ((w.alloc (.cells #[.int .i64 a1] 3)).alloc (.cells #[.int .i64 a2] 3)) (by simp;omega) (by simp) (by simp) (by simp)
   refine (Tryz.slices_ContainsFunc (α:=Int) (Value.int .i64) (fun x=>!(inR a1 a2 x)) 191 _ e71 bk o l0.length c0 l0 _ hpred (Nat.le_refl _) hlen ?_).mono ?_
   ·intro j hj
    rw [hbw.cell (p:=⟨bk,o + j,none⟩) hbk]
    exact hcells j _ (by simp [hj])
   ·rintro e w' ⟨he,q,rfl⟩
    rw [List.take_length] at he
    exact ⟨he,pw_below_drewN hbw q⟩
 have hall:l0.all (inR a1 a2) = !(l0.any (fun x=>!(inR a1 a2 x))):=by
  rw [List.not_any_eq_all_not];simp
 rw [hall]
 generalize l0.any (fun x=>!(inR a1 a2 x)) = b at hcon ⊢
 go_enter Tryz.func159,Tryz.ntmps159
 go_wp2_with (first | (go_at_call 59;refine hcon.mono ?_;rintro e w' ⟨rfl,hb⟩))
 go_ret
 exact ⟨rfl,hb⟩
end Go.Proofs.YtldhkbiomingbaaGreatDoor

namespace Go.Proofs.YtldhkbiomingbaaGreatDoor.F
open Go.Proofs.YtldhkbiomingbaaGreatDoor
open Go.RowKit Go.YW.PrintWords Go.YW.PrintLast Go.YW.PrintMore
attribute [local go_sem] max2_int min2_int max_two min_two max_three min_three max_four min_four
def impl_isNumber.f (k:Nat) (a0:ByteArray) (l1:List Int):Option (Bool):=(impl_IsTray.f k a0).bind fun t101=>(if t101 = true then ((impl_read.f a0).bind fun bt102=>((impl_areWithin.f l1 0 (wrap64 ((bt102.2.2.length:Int) - 1))).bind fun t107=>(some t107))) else (some false))
theorem impl_isNumber.mono:∀ a0 a1 k,LeO (impl_isNumber.f k a0 a1) (impl_isNumber.f (k + 1) a0 a1):=by
 intro a0 a1 k
 unfold impl_isNumber.f
 have im0:=@impl_IsTray.mono;exact mo
theorem impl_isNumber.calls (k:Nat) (a0:ByteArray) (A1:Option Addr) (c1:Nat) (l1:List Int) (r:Bool) (w:World) (hr1:Kd.C (Kd.int .i64) w A1 l1.length l1) (hc1:l1.length ≤ c1) (h:impl_isNumber.f k a0 l1 = some r) :
  Calls Tryz.prog 115 #[.string a0,.slice A1 l1.length c1] w fun e w'=>e = .returned (.bool r) ∧ Below w.heap.size w w':=by
 have hfd65_2:∀ (x0_ x1_ x2_:Value) (W:World),(Instr.field 65 (.agg #[x0_,x1_,x2_]) 2).run Tryz.prog W = .ok x2_ W:=fun _ _ _  _=>by kernel_rfl
 have HR1:=am hr1
 have HC1:=am hc1
 clear hr1 hc1
 have HB:=am (Below.refl w.heap.size w)
 have H:((impl_IsTray.f k a0).bind fun t101=>(if t101 = true then ((impl_read.f a0).bind fun bt102=>((impl_areWithin.f l1 0 (wrap64 ((bt102.2.2.length:Int) - 1))).bind fun t107=>(some t107))) else (some false))) = some r:=h
 clear h
 obtain ⟨t101,A3,H⟩:=bn H
 by_cases c4:t101 = true
 rotate_left
 ·replace c4:=Bool.eq_false_iff.mpr c4
  subst c4
  rw [if_neg Bool.false_ne_true] at H
  obtain rfl:=Option.some.inj H
  go_enter Tryz.func115,Tryz.ntmps115
  go_wp2_with (first | ((with_reducible refine gate_callee (f:=102) rfl ?_);refine goesL_ (some 6) rfl rfl Tryz.func102 k_r rfl #[.string a0] rfl aq6 ?_;(with_reducible refine (impl_IsTray.calls k a0 false _ A3.out).mono ?_);rintro e w11 ⟨rfl,hb⟩;refine ⟨_,rfl,?_⟩;replace HB:=am (below_step aq2 hb);(try clear hb)))
  go_ret
  exact ⟨aq8,aq2⟩
 subst c4
 rw [if_pos rfl] at H
 replace H:=Option.bind_eq_some_iff.mp H
 obtain ⟨⟨t102,t103,t104⟩,A50,H⟩:=H
 replace H:((impl_areWithin.f l1 0 (wrap64 ((t104.length:Int) - 1))).bind fun t107=>(some t107)) = some r:=H
 have A5:=am A50
 clear A50
 obtain ⟨t107,A6,H⟩:=bn H
 obtain rfl:=Option.some.inj H
 go_enter Tryz.func115,Tryz.ntmps115
 go_wp2_with (first | ((with_reducible refine gate_callee (f:=102) rfl ?_);refine goesL_ (some 6) rfl rfl Tryz.func102 k_r rfl #[.string a0] rfl aq6 ?_;(with_reducible refine (impl_IsTray.calls k a0 true _ A3.out).mono ?_);rintro e w7 ⟨rfl,hb⟩;refine ⟨_,rfl,?_⟩;replace HB:=am (below_step aq2 hb);(try clear hb)) | (go_at_call 51;(with_reducible refine (impl_read.calls a0 t102 t103 t104 _ A5.out).mono ?_);rintro e w8 ⟨v105,rfl,ho0,hb⟩;have HO106:=am (Kd.V_lower (Kd.V_mono (ok':=fun k_=>True) ho0 (fun k_ hk_=>trivial)) (below_size aq2));replace HB:=am (below_step aq2 hb);(try clear hb);(try clear ho0);obtain ⟨Ao9,co9,eo9⟩:=Kd.V_slice HO106.out;subst eo9) | (go_at_call 159;(with_reducible refine (impl_areWithin.calls _ _ l1 0 (wrap64 ((t104.length:Int) - 1)) t107 _ ?side1 ?side2 A6.out).mono ?_);(case side1=>repeat (first | exact (Kd.C_below HR1.out HB.out) | (with_reducible refine Kd.C_alloc ?_ _) | (with_reducible refine Kd.C_drewN ?_ _) | (with_reducible refine Kd.C_drew ?_)));(case side2=>exact HC1.out);rintro e w10 ⟨rfl,hb⟩;replace HO106:=am (Kd.V_below (by (with_reducible repeat (first | apply Kd.V_alloc | apply Kd.V_drewN | apply Kd.V_drew));exact HO106.out) hb);replace HB:=am (below_step aq2 hb);(try clear hb)))
 go_ret
 exact ⟨aq8,aq2⟩
def impl_IsPuzzle.f (k:Nat) (a0_0:ByteArray) (a0_1:ByteArray) (a0_2:Int):Option (Bool):=(impl_cellOf.f k a0_0 a0_1).bind fun bt102=>(if bt102.2 = true then ((impl_isNumber.f k a0_0 (([a0_2]:List Int))).bind fun t107=>(if t107 = true then ((impl_read.f a0_0).bind fun bt108=>(if 0 ≤ a0_2 then (if a0_2 < (bt108.2.2.length:Int) then (some ((rd bt108.2.2 a0_2) != 35)) else (none)) else (none))) else (some false))) else (some false))
theorem impl_IsPuzzle.mono:∀ a0 a1 a2 k,LeO (impl_IsPuzzle.f k a0 a1 a2) (impl_IsPuzzle.f (k + 1) a0 a1 a2):=by
 intro a0 a1 a2 k
 unfold impl_IsPuzzle.f
 have im0:=@impl_cellOf.mono;have im1:=@impl_isNumber.mono;exact mo
def impl_IsPuzzle.T2:Bool × List (List Nat × List Nat):=(true,[([],[]),([0],[0]),([1],[1]),([2,1],[1,2]),([1],[1]),([4,1],[1,4]),([5,1],[1,5]),([3,6,1,1],[1,3,6]),([1,7],[1,7]),([8,7],[8]),([9],[9]),([10,9],[9,10]),([11,9,9],[9,11]),([12,9],[9,12]),([9],[9]),([14,9],[9,14]),([13,15,9],[9,13,15]),([16,9],[9,16]),([17,9],[9,17]),([9,18],[9,18]),([19,12,0,1,2,3,4,5,6,7,8,9,10,11,12,13,14,15,16,17,18,19],[19])])
def impl_IsPuzzle.B2:List Nat:=[0,1,3,7,3,19,51,127,255,511,1023,2047,4095,8191,1023,17407,65535,131071,262143,524287,1048575]
theorem impl_IsPuzzle.tab2:rtab .any (opsOf Tryz.f94 2) = impl_IsPuzzle.T2:=by kernel_rfl
theorem impl_IsPuzzle.bits2:waitsOk impl_IsPuzzle.T2.2 impl_IsPuzzle.B2 = true:=by kernel_rfl
theorem impl_IsPuzzle.calls (k:Nat) (a0_0:ByteArray) (a0_1:ByteArray) (a0_2:Int) (r:Bool) (w:World) (h:impl_IsPuzzle.f k a0_0 a0_1 a0_2 = some r) :
  Calls Tryz.prog 94 #[.agg #[.string a0_0,.string a0_1,.int .i64 a0_2]] w fun e w'=>e = .returned (.bool r) ∧ Below w.heap.size w w':=by
 have hu30:=Tryz.underlying30
 have hfd65_2:∀ (x0_ x1_ x2_:Value) (W:World),(Instr.field 65 (.agg #[x0_,x1_,x2_]) 2).run Tryz.prog W = .ok x2_ W:=fun _ _ _  _=>by kernel_rfl
 have HB:=am (Below.refl w.heap.size w)
 have H:((impl_cellOf.f k a0_0 a0_1).bind fun bt102=>(if bt102.2 = true then ((impl_isNumber.f k a0_0 (([a0_2]:List Int))).bind fun t107=>(if t107 = true then ((impl_read.f a0_0).bind fun bt108=>(if 0 ≤ a0_2 then (if a0_2 < (bt108.2.2.length:Int) then (some ((rd bt108.2.2 a0_2) != 35)) else (none)) else (none))) else (some false))) else (some false))) = some r:=h
 clear h
 replace H:=Option.bind_eq_some_iff.mp H
 obtain ⟨⟨t102,t103⟩,A20,H⟩:=H
 replace H:(if t103 = true then ((impl_isNumber.f k a0_0 (([a0_2]:List Int))).bind fun t107=>(if t107 = true then ((impl_read.f a0_0).bind fun bt108=>(if 0 ≤ a0_2 then (if a0_2 < (bt108.2.2.length:Int) then (some ((rd bt108.2.2 a0_2) != 35)) else (none)) else (none))) else (some false))) else (some false)) = some r:=H
 have A2:=am A20
 clear A20
 by_cases c3:t103 = true
 rotate_left
 ·replace c3:=Bool.eq_false_iff.mpr c3
  subst c3
  rw [if_neg Bool.false_ne_true] at H
  obtain rfl:=Option.some.inj H
  go_enter Tryz.func94,Tryz.ntmps94
  try go_wp2_with (first | ((with_reducible refine gate_dst (N:=1) rfl ?_);(try (refine gate_guard (by rfl) ?_;dsimp only));refine box_event ?hg (N:=1) ?hd (cs:=#[.string a0_0,.string a0_1,.int .i64 a0_2]) (t:=30) ?hr ?_;(case hd=>rfl);(case hg=>rfl);(case hr=>exact aq13);intro gb101 hg w27 hbox hb;have BK101:=am (hbox);have GW101:=am ((by rw [hg];exact (below_size aq2):w.heap.size ≤ gb101));have GE101:=GW101;replace HB:=am (below_step aq2 hb);clear hb hbox hg;obtain ⟨hcz28_0,hcz28_1,hcz28_2,hfz28_0,hfz28_1,hfz28_2⟩:=blk3_ BK101.out) | ((with_reducible refine gate_callee (f:=88) rfl ?_);refine goesL_ (some 10) rfl rfl Tryz.func88 k_r rfl #[.string a0_0,.string a0_1] rfl aq6 ?_;(with_reducible refine (impl_cellOf.calls k a0_0 a0_1 t102 false _ A2.out).mono ?_);rintro e w29 ⟨rfl,hb⟩;refine ⟨_,rfl,?_⟩;replace BK101:=am (bb BK101 hb);replace HB:=am (below_step aq0 hb);(try clear hb)))
  replace BK101:=am (blk_drew BK101.out)
  replace HB:=am (below_drew1 HB.out)
  refine start_ (n:=21) (S:=fun w'=>True) (ds:=[]) (bm 21 0) k_r rfl rfl trivial (fun hHeld=>?_);refine with_tabW impl_IsPuzzle.tab2 impl_IsPuzzle.bits2 (fun HT_ HW_=>?_)
  generalize w29.drew = w30 at BK101 HB hHeld ⊢
  refine py (i:=0) (N:=some 13) (bm 21 1) ?_
  refine py (i:=1) (N:=some 14) (bm 21 3) ?_
  refine pu (i:=2) (N:=some 15) (bm 21 7) ?_
  refine pu (i:=3) (N:=some 16) (bm 21 15) ?_
  refine pu (i:=4) (N:=some 17) (bm 21 31) ?_
  refine pu (i:=5) (N:=some 18) (bm 21 63) ?_
  refine pu (i:=6) (N:=some 19) (bm 21 127) ?_
  refine pu (i:=7) (N:=some 20) (bm 21 255) ?_
  refine py (i:=8) (N:=some 21) (bm 21 511) ?_
  refine py (i:=9) (N:=some 22) (bm 21 1023) ?_
  refine pu (i:=10) (N:=some 23) (bm 21 2047) ?_
  refine pu (i:=11) (N:=some 24) (bm 21 4095) ?_
  refine pu (i:=12) (N:=some 25) (bm 21 8191) ?_
  refine pu (i:=13) (N:=some 26) (bm 21 16383) ?_
  refine pu (i:=14) (N:=some 27) (bm 21 32767) ?_
  refine pu (i:=15) (N:=some 28) (bm 21 65535) ?_
  refine pu (i:=16) (N:=some 29) (bm 21 131071) ?_
  refine pu (i:=17) (N:=some 30) (bm 21 262143) ?_
  refine pu (i:=18) (N:=some 31) (bm 21 524287) ?_
  refine py (i:=19) (N:=some 32) (bm 21 1048575) ?_
  refine py (i:=20) (N:=some 2) (bm 21 2097151) ?_
  refine done_ (done_of HT_.out k_r) ?_
  try go_wp2
  go_ret
  exact ⟨aq8,aq0⟩
 subst c3
 rw [if_pos rfl] at H
 obtain ⟨y104,hy_⟩:∃ y_:List Int,y_ = (([a0_2]:List Int)):=⟨_,rfl⟩
 replace H:((impl_isNumber.f k a0_0 y104).bind fun t107=>(if t107 = true then ((impl_read.f a0_0).bind fun bt108=>(if 0 ≤ a0_2 then (if a0_2 < (bt108.2.2.length:Int) then (some ((rd bt108.2.2 a0_2) != 35)) else (none)) else (none))) else (some false))) = some r:=aq5
 have Ny104:=am hy_
 clear hy_
 obtain ⟨t107,A4,H⟩:=bn H
 by_cases c5:t107 = true
 rotate_left
 ·replace c5:=Bool.eq_false_iff.mpr c5
  subst c5
  rw [if_neg Bool.false_ne_true] at H
  obtain rfl:=Option.some.inj H
  go_enter Tryz.func94,Tryz.ntmps94
  try go_wp2_with (first | ((with_reducible refine gate_dst (N:=1) rfl ?_);(try (refine gate_guard (by rfl) ?_;dsimp only));refine box_event ?hg (N:=1) ?hd (cs:=#[.string a0_0,.string a0_1,.int .i64 a0_2]) (t:=30) ?hr ?_;(case hd=>rfl);(case hg=>rfl);(case hr=>exact aq13);intro gb101 hg w19 hbox hb;have BK101:=am (hbox);have GW101:=am ((by rw [hg];exact (below_size aq2):w.heap.size ≤ gb101));have GE101:=GW101;replace HB:=am (below_step aq2 hb);clear hb hbox hg;obtain ⟨hcz20_0,hcz20_1,hcz20_2,hfz20_0,hfz20_1,hfz20_2⟩:=blk3_ BK101.out) | ((with_reducible refine gate_callee (f:=88) rfl ?_);refine goesL_ (some 10) rfl rfl Tryz.func88 k_r rfl #[.string a0_0,.string a0_1] rfl aq6 ?_;(with_reducible refine (impl_cellOf.calls k a0_0 a0_1 t102 true _ A2.out).mono ?_);rintro e w21 ⟨rfl,hb⟩;refine ⟨_,rfl,?_⟩;replace BK101:=am (bb BK101 hb);replace HB:=am (below_step aq0 hb);(try clear hb)))
  replace BK101:=am (blk_drew BK101.out)
  replace HB:=am (below_drew1 HB.out)
  refine start_ (n:=21) (S:=fun w'=>w'.cell? ⟨gb101,0,none⟩ = some (.string a0_0) ∧ w'.cell? ⟨gb101,1,none⟩ = some (.string a0_1) ∧ w'.cell? ⟨gb101,2,none⟩ = some (.int .i64 a0_2)) (ds:=[]) (bm 21 0) k_r rfl rfl ⟨bk BK101 0,bk BK101 1,bk BK101 2⟩ (fun hHeld=>?_);refine with_tabW impl_IsPuzzle.tab2 impl_IsPuzzle.bits2 (fun HT_ HW_=>?_)
  generalize w21.drew = w22 at BK101 HB hHeld ⊢
  refine py (i:=0) (N:=some 13) (bm 21 1) ?_
  refine py (i:=1) (N:=some 14) (bm 21 3) ?_
  refine py (i:=2) (N:=some 15) (bm 21 7) ?_
  refine py (i:=4) (N:=some 17) (bm 21 23) ?_
  refine tk3 (i:=3) (N:=some 16) (bm 21 31) hHeld ?_
  refine tk3 (i:=5) (N:=some 18) (bm 21 63) hHeld ?_
  refine one_ (i:=6) (N:=some 19) (bm 21 127) rfl rfl (one_of HT_.out k_r) d_c (fun K hK=>?_)
  refine Kd.R_lit_step (Kd.int .i64) _ 3 ?hg (N:=19) ?hd (xs:=([a0_2]:List Int)) (inner:=[.int .i64 a0_2]) (ok:=fun _=>True) (okp:=fun _=>True) ?hr ?hp (fun _ hk=>hk) trivial (Below.refl _ _) (Nat.le_refl _) (by simp) ?_;(case hd=>rfl);(case hg=>rfl);(case hr=>exact aq13);(case hp=>exact (Reps.one (show Kd.M (Kd.int .i64) _ _ _ a0_2 [.int .i64 a0_2] from rfl) (Reps.none _ _)))
  intro v105 w23 ho24 hb hg_ hnew_
  clear hg_ hnew_
  (first | rw [← Ny104.out] at ho24 | (simp only [Int.reduceToNat] at ho24;rw [← Ny104.out] at ho24))
  have HO106:=am (Kd.R_lower ho24 (below_size aq0))
  replace BK101:=am (bb BK101 hb)
  replace HB:=am (below_step aq0 hb)
  clear hb ho24
  obtain ⟨Ao25,co25,eo25⟩:=Kd.R_slice HO106.out
  (first | subst eo25 | (injection eo25 with f1_ f2_ f3_;have f4_:=f1_.symm;have f5_:=f3_.symm;clear f1_ f2_ f3_;subst f4_;subst f5_))
  refine hK.out _ _ ⟨bk BK101 0,bk BK101 1,bk BK101 2⟩ (fun hHeld=>?_)
  clear hK K
  refine nm (some 19) ?_
  refine one_ (i:=7) (N:=some 20) (bm 21 255) rfl rfl (one_of HT_.out k_r) d_c (fun K hK=>?_)
  refine goes_ Tryz.func115 k_r rfl #[.string a0_0,.slice Ao25 y104.length co25] (by rfl) rfl rfl aq6 ?_
  with_reducible refine (impl_isNumber.calls k a0_0 _ _ y104 false _ ?side1 ?side2 A4.out).mono ?_
  (case side1=>exact aq35)
  (case side2=>exact aq112)
  rintro e w26 ⟨rfl,hb⟩
  refine ⟨_,rfl,?_⟩
  replace HO106:=am (Kd.R_below aq22 hb)
  replace BK101:=am (bb BK101 hb)
  replace HB:=am (below_step aq0 hb)
  (try clear hb)
  refine hK.out _ _ ⟨bk BK101 0,bk BK101 1,bk BK101 2⟩ (fun hHeld=>?_)
  clear hK K
  refine nm (some 20) ?_
  refine py (i:=8) (N:=some 21) (bm 21 511) ?_
  refine py (i:=9) (N:=some 22) (bm 21 1023) ?_
  refine pu (i:=10) (N:=some 23) (bm 21 2047) ?_
  refine pu (i:=11) (N:=some 24) (bm 21 4095) ?_
  refine pu (i:=12) (N:=some 25) (bm 21 8191) ?_
  refine pu (i:=13) (N:=some 26) (bm 21 16383) ?_
  refine pu (i:=14) (N:=some 27) (bm 21 32767) ?_
  refine pu (i:=15) (N:=some 28) (bm 21 65535) ?_
  refine pu (i:=16) (N:=some 29) (bm 21 131071) ?_
  refine pu (i:=17) (N:=some 30) (bm 21 262143) ?_
  refine pu (i:=18) (N:=some 31) (bm 21 524287) ?_
  refine py (i:=19) (N:=some 32) (bm 21 1048575) ?_
  refine py (i:=20) (N:=some 2) (bm 21 2097151) ?_
  refine done_ (done_of HT_.out k_r) ?_
  try go_wp2
  go_ret
  exact ⟨aq8,aq0⟩
 subst c5
 rw [if_pos rfl] at H
 replace H:=Option.bind_eq_some_iff.mp H
 obtain ⟨⟨t108,t109,t110⟩,A60,H⟩:=H
 replace H:(if 0 ≤ a0_2 then (if a0_2 < (t110.length:Int) then (some ((rd t110 a0_2) != 35)) else (none)) else (none)) = some r:=H
 have A6:=am A60
 clear A60
 replace H:=gd H
 obtain ⟨c7,H⟩:=H
 have c7b0:=decide_eq_true c7
 clear c7
 replace H:=gd H
 obtain ⟨c8,H⟩:=H
 have c8b0:=decide_eq_true c8
 clear c8
 obtain rfl:=Option.some.inj H
 go_enter Tryz.func94,Tryz.ntmps94
 try go_wp2_with (first | ((with_reducible refine gate_dst (N:=1) rfl ?_);(try (refine gate_guard (by rfl) ?_;dsimp only));refine box_event ?hg (N:=1) ?hd (cs:=#[.string a0_0,.string a0_1,.int .i64 a0_2]) (t:=30) ?hr ?_;(case hd=>rfl);(case hg=>rfl);(case hr=>exact aq13);intro gb101 hg w9 hbox hb;have BK101:=am (hbox);have GW101:=am ((by rw [hg];exact (below_size aq2):w.heap.size ≤ gb101));have GE101:=GW101;replace HB:=am (below_step aq2 hb);clear hb hbox hg;obtain ⟨hcz10_0,hcz10_1,hcz10_2,hfz10_0,hfz10_1,hfz10_2⟩:=blk3_ BK101.out) | ((with_reducible refine gate_callee (f:=88) rfl ?_);refine goesL_ (some 10) rfl rfl Tryz.func88 k_r rfl #[.string a0_0,.string a0_1] rfl aq6 ?_;(with_reducible refine (impl_cellOf.calls k a0_0 a0_1 t102 true _ A2.out).mono ?_);rintro e w11 ⟨rfl,hb⟩;refine ⟨_,rfl,?_⟩;replace BK101:=am (bb BK101 hb);replace HB:=am (below_step aq0 hb);(try clear hb)))
 replace BK101:=am (blk_drew BK101.out)
 replace HB:=am (below_drew1 HB.out)
 refine start_ (n:=21) (S:=fun w'=>w'.cell? ⟨gb101,0,none⟩ = some (.string a0_0) ∧ w'.cell? ⟨gb101,1,none⟩ = some (.string a0_1) ∧ w'.cell? ⟨gb101,2,none⟩ = some (.int .i64 a0_2)) (ds:=[]) (bm 21 0) k_r rfl rfl ⟨bk BK101 0,bk BK101 1,bk BK101 2⟩ (fun hHeld=>?_);refine with_tabW impl_IsPuzzle.tab2 impl_IsPuzzle.bits2 (fun HT_ HW_=>?_)
 generalize w11.drew = w12 at BK101 HB hHeld ⊢
 refine py (i:=0) (N:=some 13) (bm 21 1) ?_
 refine py (i:=1) (N:=some 14) (bm 21 3) ?_
 refine py (i:=2) (N:=some 15) (bm 21 7) ?_
 refine py (i:=4) (N:=some 17) (bm 21 23) ?_
 refine tk3 (i:=3) (N:=some 16) (bm 21 31) hHeld ?_
 refine tk3 (i:=5) (N:=some 18) (bm 21 63) hHeld ?_
 refine one_ (i:=6) (N:=some 19) (bm 21 127) rfl rfl (one_of HT_.out k_r) d_c (fun K hK=>?_)
 refine Kd.R_lit_step (Kd.int .i64) _ 3 ?hg (N:=19) ?hd (xs:=([a0_2]:List Int)) (inner:=[.int .i64 a0_2]) (ok:=fun _=>True) (okp:=fun _=>True) ?hr ?hp (fun _ hk=>hk) trivial (Below.refl _ _) (Nat.le_refl _) (by simp) ?_;(case hd=>rfl);(case hg=>rfl);(case hr=>exact aq13);(case hp=>exact (Reps.one (show Kd.M (Kd.int .i64) _ _ _ a0_2 [.int .i64 a0_2] from rfl) (Reps.none _ _)))
 intro v105 w13 ho14 hb hg_ hnew_
 clear hg_ hnew_
 (first | rw [← Ny104.out] at ho14 | (simp only [Int.reduceToNat] at ho14;rw [← Ny104.out] at ho14))
 have HO106:=am (Kd.R_lower ho14 (below_size aq0))
 replace BK101:=am (bb BK101 hb)
 replace HB:=am (below_step aq0 hb)
 clear hb ho14
 obtain ⟨Ao15,co15,eo15⟩:=Kd.R_slice HO106.out
 (first | subst eo15 | (injection eo15 with f1_ f2_ f3_;have f4_:=f1_.symm;have f5_:=f3_.symm;clear f1_ f2_ f3_;subst f4_;subst f5_))
 refine hK.out _ _ ⟨bk BK101 0,bk BK101 1,bk BK101 2⟩ (fun hHeld=>?_)
 clear hK K
 refine nm (some 19) ?_
 refine one_ (i:=7) (N:=some 20) (bm 21 255) rfl rfl (one_of HT_.out k_r) d_c (fun K hK=>?_)
 refine goes_ Tryz.func115 k_r rfl #[.string a0_0,.slice Ao15 y104.length co15] (by rfl) rfl rfl aq6 ?_
 with_reducible refine (impl_isNumber.calls k a0_0 _ _ y104 true _ ?side1 ?side2 A4.out).mono ?_
 (case side1=>exact aq35)
 (case side2=>exact aq112)
 rintro e w16 ⟨rfl,hb⟩
 refine ⟨_,rfl,?_⟩
 replace HO106:=am (Kd.R_below aq22 hb)
 replace BK101:=am (bb BK101 hb)
 replace HB:=am (below_step aq0 hb)
 (try clear hb)
 refine hK.out _ _ ⟨bk BK101 0,bk BK101 1,bk BK101 2⟩ (fun hHeld=>?_)
 clear hK K
 refine nm (some 20) ?_
 refine py (i:=8) (N:=some 21) (bm 21 511) ?_
 refine py (i:=9) (N:=some 22) (bm 21 1023) ?_
 refine py (i:=10) (N:=some 23) (bm 21 2047) ?_
 refine py (i:=14) (N:=some 27) (bm 21 18431) ?_
 refine tk3 (i:=11) (N:=some 24) (bm 21 20479) hHeld ?_
 refine tk3 (i:=15) (N:=some 28) (bm 21 53247) hHeld ?_
 refine one_ (i:=12) (N:=some 25) (bm 21 57343) rfl rfl (one_of HT_.out k_r) d_c (fun K hK=>?_)
 refine goes_ Tryz.func51 k_r rfl #[.string a0_0] (by rfl) rfl rfl aq6 ?_
 with_reducible refine (impl_read.calls a0_0 t108 t109 t110 _ A6.out).mono ?_
 rintro e w17 ⟨v111,rfl,ho0,hb⟩
 refine ⟨_,rfl,?_⟩
 have HO112:=am (Kd.V_lower (Kd.V_mono (ok':=fun k_=>some k_ ≠ (.slice Ao15 y104.length co15:Value).ownBlock ∧ k_ ≠ gb101) ho0 (fun k_ hk_=>⟨(Kd.fresh' (Kd.R_lt aq22) k_ hk_),(Kd.freshB (g:=gb101) (o:=.cells #[.string a0_0,.string a0_1,.int .i64 a0_2] 30 (0,0)) aq1 k_ hk_)⟩)) (below_size aq0))
 replace HO106:=am (Kd.R_below aq22 hb)
 replace BK101:=am (bb BK101 hb)
 replace HB:=am (below_step aq0 hb)
 (try clear hb)
 (try clear ho0)
 obtain ⟨Ao18,co18,eo18⟩:=Kd.V_slice HO112.out
 (first | subst eo18 | (injection eo18 with f1_ f2_ f3_;have f4_:=f1_.symm;have f5_:=f3_.symm;clear f1_ f2_ f3_;subst f4_;subst f5_))
 have p113:0 ≤ (a0_2:Int):=of_decide_eq_true aq4
 have q113:a0_2 < (t110.length:Int):=of_decide_eq_true aq4
 obtain ⟨ad113,e113,hx113_0⟩:=Kd.at_int (Kd.V_reads' HO112.out).2.2 a0_2 p113 q113
 cases e113
 replace p113:=eq_true p113
 replace q113:=eq_true q113
 refine hK.out _ _ ⟨bk BK101 0,bk BK101 1,bk BK101 2⟩ (fun hHeld=>?_)
 clear hK K
 refine nm (some 25) ?_
 refine py (i:=13) (N:=some 26) (bm 21 65535) ?_
 refine py (i:=16) (N:=some 29) (bm 21 131071) ?_
 refine one_ (i:=17) (N:=some 30) (bm 21 262143) rfl rfl (one_of HT_.out k_r) d_c (fun K hK=>?_)
 refine value_ (w1:=?_) (v:=?_) (by rfl) rfl ?_ ?_
 rotate_left 2
 ·go_simp
  constructor
  ·rfl
  ·rfl
 refine hK.out _ _ ⟨bk BK101 0,bk BK101 1,bk BK101 2⟩ (fun hHeld=>?_)
 clear hK K
 refine nm (some 30) ?_
 refine py (i:=18) (N:=some 31) (bm 21 524287) ?_
 refine py (i:=19) (N:=some 32) (bm 21 1048575) ?_
 refine py (i:=20) (N:=some 2) (bm 21 2097151) ?_
 refine done_ (done_of HT_.out k_r) ?_
 try go_wp2
 go_ret
 exact ⟨aq8,aq0⟩
def spec_tiPlace.l0:Nat → Int → List Int → Int → Int → Option (Int)
 | 0,_,_,_,_=>none
 | k + 1,x1,x8,x9,x10=>if x10 < x9 then (if 0 ≤ x10 then (if x10 < (x8.length:Int) then (if (rd x8 x10) = x1 then (some x10) else (spec_tiPlace.l0 k x1 x8 x9 (wrap64 (x10 + 1)))) else (none)) else (none)) else (some (-1))
def spec_tiPlace.f (k:Nat) (a0_0:Int) (a0_1:Int) (l0_2:List Int) (a1:Int):Option (Int):=spec_tiPlace.l0 k a1 l0_2 (l0_2.length:Int) 0
theorem spec_tiPlace.mono_l:∀ k,(∀ y0 y1 y2 y3,LeO (spec_tiPlace.l0 k y0 y1 y2 y3) (spec_tiPlace.l0 (k + 1) y0 y1 y2 y3))
 | 0=>fun _ _ _ _ r h=>by simp [spec_tiPlace.l0] at h
 | k + 1=>by
  have ih0:=spec_tiPlace.mono_l k
  ·intro y0 y1 y2 y3
   unfold spec_tiPlace.l0
   exact mo
theorem spec_tiPlace.calls (k:Nat) (a0_0:Int) (a0_1:Int) (A0_2:Option Addr) (c0_2:Nat) (l0_2:List Int) (a1:Int) (r:Int) (w:World) (hr0_2:Kd.C (Kd.int .u8) w A0_2 l0_2.length l0_2) (hc0_2:l0_2.length ≤ c0_2) (h:spec_tiPlace.f k a0_0 a0_1 l0_2 a1 = some r) :
  Calls Tryz.prog 56 #[.agg #[.int .i64 a0_0,.int .i64 a0_1,.slice A0_2 l0_2.length c0_2],.int .u8 a1] w fun e w'=>e = .returned (.int .i64 r) ∧ Below w.heap.size w w':=by
 have hu75:=Tryz.underlying75
 have HR0_2:=am hr0_2
 have HC0_2:=am hc0_2
 clear hr0_2 hc0_2
 have HB:=am (Below.refl w.heap.size w)
 have H:(spec_tiPlace.l0 k a1 l0_2 (l0_2.length:Int) 0) = some r:=h
 clear h
 have H':=am H
 clear H
 go_enter Tryz.func56,Tryz.ntmps56
 go_wp2_with (first | (refine bx 2 #[.int .i64 a0_0,.int .i64 a0_1,.slice A0_2 l0_2.length c0_2] 75 ?_;intro gb101 hg w3 hbox hb;have BK101:=am (hbox);have GW101:=am ((by rw [hg];exact (below_size aq2):w.heap.size ≤ gb101));have GE101:=GW101;replace HB:=am (below_step aq2 hb);clear hb hbox hg;obtain ⟨hcz4_0,hcz4_1,hcz4_2,hfz4_0,hfz4_1,hfz4_2⟩:=blk3_ BK101.out))
 go_loopg [10] k (fun kq v10 w'=>∃ (x10_1:Int),v10 = .int .i64 x10_1 ∧ Aside0 (spec_tiPlace.l0 kq a1 l0_2 (l0_2.length:Int) x10_1 = some r) ∧ Aside0 (kq ≤ k) ∧ Aside0 (w'.heap[gb101]? = some (.cells #[.int .i64 a0_0,.int .i64 a0_1,(.slice A0_2 l0_2.length c0_2)] 75 (0,0))) ∧ Aside0 (Below w.heap.size w w'))
 case atStart=>exact ⟨(0),aq7,H',⟨Nat.le_refl _⟩,⟨aq1⟩,⟨aq0⟩⟩
 case round =>
  clear H'
  try clear p2
  try clear hcz4_0
  try clear hcz4_1
  try clear hcz4_2
  try clear hfz4_0
  try clear hfz4_1
  try clear hfz4_2
  obtain ⟨x10_1,rfl,HA,HK1,BK101,HB⟩:=hrel
  cases gk with
  | zero=>exact absurd HA.out (by simp [spec_tiPlace.l0])
  | succ k1 =>
   have H:=HA.out
   clear HA
   simp only [spec_tiPlace.l0] at H
   by_cases c5:x10_1 < (l0_2.length:Int)
   rotate_left
   ·rw [if_neg c5] at H
    have c5b0:=decide_eq_false c5
    clear c5
    obtain rfl:=Option.some.inj H
    go_wp2
    go_ret
    exact ⟨aq8,aq0⟩
   rw [if_pos c5] at H
   have c5b0:=decide_eq_true c5
   clear c5
   replace H:=gd H
   obtain ⟨c6,H⟩:=H
   have c6b0:=decide_eq_true c6
   clear c6
   replace H:=gd H
   obtain ⟨c7,H⟩:=H
   have c7b0:=decide_eq_true c7
   clear c7
   by_cases c8:(rd l0_2 x10_1) = a1
   ·rw [if_pos c8] at H
    have c8b0:=beq_iff_eq.mpr c8
    have c8b1:=bne_eq_false_iff_eq.mpr c8
    clear c8
    obtain rfl:=Option.some.inj H
    have p102:0 ≤ (x10_1:Int):=of_decide_eq_true aq4
    have q102:x10_1 < (l0_2.length:Int):=of_decide_eq_true aq4
    obtain ⟨ad102,e102,hx102_0⟩:=Kd.at_int HR0_2.out x10_1 p102 q102
    cases e102
    try replace hx102_0:=(HB.out.cell (World.block_lt_of_cell? w _ hx102_0)).trans hx102_0
    replace p102:=eq_true p102
    replace q102:=eq_true q102
    go_wp2
    go_ret
    exact ⟨aq8,aq0⟩
   rw [if_neg c8] at H
   have c8b0:=beq_eq_false_iff_ne.mpr c8
   have c8b1:=bne_iff_ne.mpr c8
   have H':=am H
   clear H
   have p102:0 ≤ (x10_1:Int):=of_decide_eq_true aq4
   have q102:x10_1 < (l0_2.length:Int):=of_decide_eq_true aq4
   obtain ⟨ad102,e102,hx102_0⟩:=Kd.at_int HR0_2.out x10_1 p102 q102
   cases e102
   try replace hx102_0:=(HB.out.cell (World.block_lt_of_cell? w _ hx102_0)).trans hx102_0
   replace p102:=eq_true p102
   replace q102:=eq_true q102
   go_wp2
   go_roundg k1
   case measure=>have:=HK1.out;omega
   case rel=>exact ⟨(wrap64 (x10_1 + 1)),aq7,H',⟨aq70⟩,⟨aq1⟩,⟨aq0⟩⟩
def spec_reName.f (a0:ByteArray):Option (Bool):=if (a0.size:Int) = 1 then (if 0 < (a0.size:Int) then (if (bt a0 0) ≥ 97 then (some (decide ((bt a0 0) ≤ 102))) else (some false)) else (none)) else (some false)
theorem spec_reName.calls (a0:ByteArray) (r:Bool) (w:World) (h:spec_reName.f a0 = some r) :
  Calls Tryz.prog 106 #[.string a0] w fun e w'=>e = .returned (.bool r) ∧ Drawn0 w w':=by
 have H:(if (a0.size:Int) = 1 then (if 0 < (a0.size:Int) then (if (bt a0 0) ≥ 97 then (some (decide ((bt a0 0) ≤ 102))) else (some false)) else (none)) else (some false)) = some r:=h
 clear h
 by_cases c2:(a0.size:Int) = 1
 rotate_left
 ·rw [if_neg c2] at H
  have c2b0:=beq_eq_false_iff_ne.mpr c2
  have c2b1:=bne_iff_ne.mpr c2
  obtain rfl:=Option.some.inj H
  go_enter Tryz.func106,Tryz.ntmps106
  go_wp2
  go_ret
  exact ⟨aq7,aq20⟩
 rw [if_pos c2] at H
 have c2b0:=beq_iff_eq.mpr c2
 have c2b1:=bne_eq_false_iff_eq.mpr c2
 clear c2
 replace H:=gd H
 obtain ⟨c3,H⟩:=H
 have c3b0:=decide_eq_true c3
 have c3b1:decide (0 < a0.size) = true:=decide_eq_true o_m
 clear c3
 by_cases c5:(bt a0 0) ≥ 97
 rotate_left
 ·rw [if_neg c5] at H
  have c5b0:=decide_eq_false c5
  clear c5
  obtain rfl:=Option.some.inj H
  have p4:0 ≤ (0:Int):=o_m
  have q4:0 < a0.size:=(by have:(0:Int) < (a0.size:Int):=of_decide_eq_true aq4;omega)
  have hx4:∀ h:0 < a0.size,((a0[0]'h).toNat:Int) = bt a0 0:=bt_at a0 0
  clear p4
  have qi4:(0 < (a0.size:Int)) = True:=eq_true (of_decide_eq_true aq4)
  replace q4:=eq_true q4
  go_enter Tryz.func106,Tryz.ntmps106
  go_wp2
  go_ret
  exact ⟨aq7,aq20⟩
 rw [if_pos c5] at H
 have c5b0:=decide_eq_true c5
 clear c5
 obtain rfl:=Option.some.inj H
 have p4:0 ≤ (0:Int):=o_m
 have q4:0 < a0.size:=(by have:(0:Int) < (a0.size:Int):=of_decide_eq_true aq4;omega)
 have hx4:∀ h:0 < a0.size,((a0[0]'h).toNat:Int) = bt a0 0:=bt_at a0 0
 clear p4
 have qi4:(0 < (a0.size:Int)) = True:=eq_true (of_decide_eq_true aq4)
 replace q4:=eq_true q4
 have p6:0 ≤ (0:Int):=o_m
 have q6:0 < a0.size:=(by have:(0:Int) < (a0.size:Int):=of_decide_eq_true aq4;omega)
 have hx6:∀ h:0 < a0.size,((a0[0]'h).toNat:Int) = bt a0 0:=bt_at a0 0
 clear p6
 have qi6:(0 < (a0.size:Int)) = True:=eq_true (of_decide_eq_true aq4)
 replace q6:=eq_true q6
 go_enter Tryz.func106,Tryz.ntmps106
 go_wp2
 go_ret
 exact ⟨aq7,aq20⟩
def spec_l1In.f (a0:Int) (a1:Int) (a2:Int):Option (Bool):=if a0 ≥ a1 then (some (decide (a0 ≤ a2))) else (some false)
theorem spec_l1In.calls (a0:Int) (a1:Int) (a2:Int) (r:Bool) (w:World) (h:spec_l1In.f a0 a1 a2 = some r) :
  Calls Tryz.prog 68 #[.int .i64 a0,.int .i64 a1,.int .i64 a2] w fun e w'=>e = .returned (.bool r) ∧ Drawn0 w w':=by
 have H:(if a0 ≥ a1 then (some (decide (a0 ≤ a2))) else (some false)) = some r:=h
 clear h
 by_cases c4:a0 ≥ a1
 rotate_left
 ·rw [if_neg c4] at H
  have c4b0:=decide_eq_false c4
  clear c4
  obtain rfl:=Option.some.inj H
  go_enter Tryz.func68,Tryz.ntmps68
  go_wp2
  go_ret
  exact ⟨aq7,aq20⟩
 rw [if_pos c4] at H
 have c4b0:=decide_eq_true c4
 clear c4
 obtain rfl:=Option.some.inj H
 go_enter Tryz.func68,Tryz.ntmps68
 go_wp2
 go_ret
 exact ⟨aq7,aq20⟩
def spec_puGood.f (k:Nat) (a0_0:ByteArray) (a0_1:ByteArray) (a0_2:Int):Option (Bool):=(spec_tyRead.f k a0_0).bind fun bt102=>(if bt102.2.2.2 = true then ((spec_reName.f a0_1).bind fun t109=>(if t109 = true then (if 0 < (a0_1.size:Int) then ((spec_tiPlace.f k bt102.1 bt102.2.1 bt102.2.2.1 (bt a0_1 0)).bind fun t110=>(if t110 < 0 then (some false) else ((spec_l1In.f a0_2 0 (wrap64 ((bt102.2.2.1.length:Int) - 1))).bind fun t111=>(if t111 = true then (if 0 ≤ a0_2 then (if a0_2 < (bt102.2.2.1.length:Int) then (some ((rd bt102.2.2.1 a0_2) != 35)) else (none)) else (none)) else (some false))))) else (none)) else (some false))) else (some false))
def spec_puGood.T2:Bool × List (List Nat × List Nat):=(true,[([],[]),([0],[0]),([1],[1]),([2],[2]),([3,2],[2,3]),([4,2,2],[2,4]),([5,2],[2,5]),([2,6],[2,6]),([7,5],[7]),([8],[8]),([8],[8]),([10,8],[8,10]),([11,8],[8,11]),([9,12,8,8],[8,9,12]),([13,8],[8,13]),([8,14],[8,14])])
def spec_puGood.B2:List Nat:=[0,1,3,7,15,31,63,127,255,511,511,1535,3583,8191,16383,32767]
theorem spec_puGood.tab2:rtab .any (opsOf Tryz.f92 2) = spec_puGood.T2:=by kernel_rfl
theorem spec_puGood.bits2:waitsOk spec_puGood.T2.2 spec_puGood.B2 = true:=by kernel_rfl
theorem spec_puGood.calls (k:Nat) (a0_0:ByteArray) (a0_1:ByteArray) (a0_2:Int) (r:Bool) (w:World) (h:spec_puGood.f k a0_0 a0_1 a0_2 = some r) :
  Calls Tryz.prog 92 #[.agg #[.string a0_0,.string a0_1,.int .i64 a0_2]] w fun e w'=>e = .returned (.bool r) ∧ Below w.heap.size w w':=by
 have hu30:=Tryz.underlying30
 have hu75:=Tryz.underlying75
 have HB:=am (Below.refl w.heap.size w)
 have H:((spec_tyRead.f k a0_0).bind fun bt102=>(if bt102.2.2.2 = true then ((spec_reName.f a0_1).bind fun t109=>(if t109 = true then (if 0 < (a0_1.size:Int) then ((spec_tiPlace.f k bt102.1 bt102.2.1 bt102.2.2.1 (bt a0_1 0)).bind fun t110=>(if t110 < 0 then (some false) else ((spec_l1In.f a0_2 0 (wrap64 ((bt102.2.2.1.length:Int) - 1))).bind fun t111=>(if t111 = true then (if 0 ≤ a0_2 then (if a0_2 < (bt102.2.2.1.length:Int) then (some ((rd bt102.2.2.1 a0_2) != 35)) else (none)) else (none)) else (some false))))) else (none)) else (some false))) else (some false))) = some r:=h
 clear h
 replace H:=Option.bind_eq_some_iff.mp H
 obtain ⟨⟨t102,t103,t104,t107⟩,A20,H⟩:=H
 replace H:(if t107 = true then ((spec_reName.f a0_1).bind fun t109=>(if t109 = true then (if 0 < (a0_1.size:Int) then ((spec_tiPlace.f k t102 t103 t104 (bt a0_1 0)).bind fun t110=>(if t110 < 0 then (some false) else ((spec_l1In.f a0_2 0 (wrap64 ((t104.length:Int) - 1))).bind fun t111=>(if t111 = true then (if 0 ≤ a0_2 then (if a0_2 < (t104.length:Int) then (some ((rd t104 a0_2) != 35)) else (none)) else (none)) else (some false))))) else (none)) else (some false))) else (some false)) = some r:=H
 have A2:=am A20
 clear A20
 by_cases c3:t107 = true
 rotate_left
 ·replace c3:=Bool.eq_false_iff.mpr c3
  subst c3
  rw [if_neg Bool.false_ne_true] at H
  obtain rfl:=Option.some.inj H
  go_enter Tryz.func92,Tryz.ntmps92
  try go_wp2_with (first | (refine bx 1 #[.string a0_0,.string a0_1,.int .i64 a0_2] 30 ?_;intro gb101 hg w57 hbox hb;have BK101:=am (hbox);have GW101:=am ((by rw [hg];exact (below_size aq2):w.heap.size ≤ gb101));have GE101:=GW101;replace HB:=am (below_step aq2 hb);clear hb hbox hg;obtain ⟨hcz58_0,hcz58_1,hcz58_2,hfz58_0,hfz58_1,hfz58_2⟩:=blk3_ BK101.out) | ((with_reducible refine gate_callee (f:=63) rfl ?_);refine goesL_ (some 8) rfl rfl Tryz.func63 k_r rfl #[.string a0_0] rfl aq6 ?_;(with_reducible refine (spec_tyRead.calls k a0_0 t102 t103 t104 false _ A2.out).mono ?_);rintro e w59 ⟨v105,rfl,ho0,hb⟩;refine ⟨_,rfl,?_⟩;have HO106:=am (Kd.R_lower ho0 (below_size aq0));replace BK101:=am (bb BK101 hb);replace HB:=am (below_step aq0 hb);(try clear hb);(try clear ho0)) | (refine bx 3 #[.int .i64 0,.int .i64 0,.slice none 0 0] 75 ?_;intro gb108 hg w60 hbox hb;replace HO106:=am (Kd.R_below aq22 hb);have BK108:=am (hbox);have GW108:=am ((by rw [hg];exact (below_size aq0):w.heap.size ≤ gb108));have GE108:=GW108;replace HB:=am (below_step aq0 hb);have NB101_108:=am ((by rw [hg];exact Nat.ne_of_lt (blk_lt (g:=gb101) (o:=.cells #[.string a0_0,.string a0_1,.int .i64 a0_2] 30 (0,0)) aq1):gb101 ≠ gb108));have NB108_101:=am ((by rw [hg];exact Nat.ne_of_gt (blk_lt (g:=gb101) (o:=.cells #[.string a0_0,.string a0_1,.int .i64 a0_2] 30 (0,0)) aq1):gb108 ≠ gb101));replace BK101:=am (bb BK101 hb);clear hb hbox hg;have hnb61:=NB108_101.out;have hnc61:=NB101_108.out;obtain ⟨hcz62_0,hcz62_1,hcz62_2,hfz62_0,hfz62_1,hfz62_2⟩:=blk3_ BK108.out;obtain ⟨Ao63,co63,eo63⟩:=Kd.R_slice HO106.out;subst eo63))
  have n0_:Aside0 (Kd.R (Kd.int .u8) 5 (((w60.setCell ⟨gb108,0,none⟩ (.int .i64 t102)).setCell ⟨gb108,1,none⟩ (.int .i64 t103)).setCell ⟨gb108,2,none⟩ (.slice Ao63 t104.length co63)) w.heap.size (fun _=>True) (.slice Ao63 t104.length co63) t104):=⟨by (with_reducible repeat (first | apply Kd.R_alloc | apply Kd.R_drewN | apply Kd.R_drew));exact Kd.R_mono (Kd.R_far (p:=⟨gb108,2,none⟩) (Kd.R_far (p:=⟨gb108,1,none⟩) (Kd.R_far (p:=⟨gb108,0,none⟩) (Kd.R_types HO106.out BK108.out d_c) (fun _ hk=>hk.2) (.int .i64 t102)) (fun _ hk=>hk.2) (.int .i64 t103)) (fun _ hk=>hk.2) (.slice Ao63 t104.length co63)) (fun _ hk=>trivial)⟩
  have n1_:Aside0 ((((w60.setCell ⟨gb108,0,none⟩ (.int .i64 t102)).setCell ⟨gb108,1,none⟩ (.int .i64 t103)).setCell ⟨gb108,2,none⟩ (.slice Ao63 t104.length co63)).heap[gb101]? = some (.cells #[.string a0_0,.string a0_1,.int .i64 a0_2] 30 (0,0))):=⟨aq31⟩
  have n2_:Aside0 ((((w60.setCell ⟨gb108,0,none⟩ (.int .i64 t102)).setCell ⟨gb108,1,none⟩ (.int .i64 t103)).setCell ⟨gb108,2,none⟩ (.slice Ao63 t104.length co63)).heap[gb108]? = some (.cells #[.int .i64 t102,.int .i64 t103,.slice Ao63 t104.length co63] 75 (0,0))):=⟨aq14⟩
  have n3_:Aside0 (Below w.heap.size w (((w60.setCell ⟨gb108,0,none⟩ (.int .i64 t102)).setCell ⟨gb108,1,none⟩ (.int .i64 t103)).setCell ⟨gb108,2,none⟩ (.slice Ao63 t104.length co63))):=⟨aq18⟩
  (try clear HO106)
  (try clear BK101)
  (try clear BK108)
  (try clear HB)
  generalize (((w60.setCell ⟨gb108,0,none⟩ (.int .i64 t102)).setCell ⟨gb108,1,none⟩ (.int .i64 t103)).setCell ⟨gb108,2,none⟩ (.slice Ao63 t104.length co63)) = w64 at n0_ n1_ n2_ n3_ ⊢
  have HO106:=n0_
  have BK101:=n1_
  have BK108:=n2_
  have HB:=n3_
  clear n0_ n1_ n2_ n3_
  replace HO106:=am (Kd.R_drew HO106.out)
  replace BK101:=am (blk_drew BK101.out)
  replace BK108:=am (blk_drew BK108.out)
  replace HB:=am (below_drew1 HB.out)
  refine start_ (n:=16) (S:=fun w'=>True) (ds:=[]) (bm 16 0) k_r rfl rfl trivial (fun hHeld=>?_);refine with_tabW spec_puGood.tab2 spec_puGood.bits2 (fun HT_ HW_=>?_)
  generalize w64.drew = w65 at HO106 BK101 BK108 HB hHeld ⊢
  refine py (i:=0) (N:=some 11) (bm 16 1) ?_
  refine py (i:=1) (N:=some 12) (bm 16 3) ?_
  refine py (i:=2) (N:=some 13) (bm 16 7) ?_
  refine pu (i:=3) (N:=some 14) (bm 16 15) ?_
  refine pu (i:=4) (N:=some 15) (bm 16 31) ?_
  refine pu (i:=5) (N:=some 16) (bm 16 63) ?_
  refine pu (i:=6) (N:=some 17) (bm 16 127) ?_
  refine py (i:=7) (N:=some 18) (bm 16 255) ?_
  refine py (i:=8) (N:=some 19) (bm 16 511) ?_
  refine pu (i:=9) (N:=some 20) (bm 16 1023) ?_
  refine pu (i:=10) (N:=some 21) (bm 16 2047) ?_
  refine pu (i:=11) (N:=some 22) (bm 16 4095) ?_
  refine pu (i:=12) (N:=some 23) (bm 16 8191) ?_
  refine pu (i:=13) (N:=some 24) (bm 16 16383) ?_
  refine pu (i:=14) (N:=some 25) (bm 16 32767) ?_
  refine py (i:=15) (N:=some 26) (bm 16 65535) ?_
  refine done_ (done_of HT_.out k_r) ?_
  try go_wp2
  go_ret
  exact ⟨aq8,aq18⟩
 subst c3
 rw [if_pos rfl] at H
 obtain ⟨t109,A4,H⟩:=bn H
 by_cases c5:t109 = true
 rotate_left
 ·replace c5:=Bool.eq_false_iff.mpr c5
  subst c5
  rw [if_neg Bool.false_ne_true] at H
  obtain rfl:=Option.some.inj H
  go_enter Tryz.func92,Tryz.ntmps92
  try go_wp2_with (first | (refine bx 1 #[.string a0_0,.string a0_1,.int .i64 a0_2] 30 ?_;intro gb101 hg w48 hbox hb;have BK101:=am (hbox);have GW101:=am ((by rw [hg];exact (below_size aq2):w.heap.size ≤ gb101));have GE101:=GW101;replace HB:=am (below_step aq2 hb);clear hb hbox hg;obtain ⟨hcz49_0,hcz49_1,hcz49_2,hfz49_0,hfz49_1,hfz49_2⟩:=blk3_ BK101.out) | ((with_reducible refine gate_callee (f:=63) rfl ?_);refine goesL_ (some 8) rfl rfl Tryz.func63 k_r rfl #[.string a0_0] rfl aq6 ?_;(with_reducible refine (spec_tyRead.calls k a0_0 t102 t103 t104 true _ A2.out).mono ?_);rintro e w50 ⟨v105,rfl,ho0,hb⟩;refine ⟨_,rfl,?_⟩;have HO106:=am (Kd.R_lower ho0 (below_size aq0));replace BK101:=am (bb BK101 hb);replace HB:=am (below_step aq0 hb);(try clear hb);(try clear ho0)) | (refine bx 3 #[.int .i64 0,.int .i64 0,.slice none 0 0] 75 ?_;intro gb108 hg w51 hbox hb;replace HO106:=am (Kd.R_below aq22 hb);have BK108:=am (hbox);have GW108:=am ((by rw [hg];exact (below_size aq0):w.heap.size ≤ gb108));have GE108:=GW108;replace HB:=am (below_step aq0 hb);have NB101_108:=am ((by rw [hg];exact Nat.ne_of_lt (blk_lt (g:=gb101) (o:=.cells #[.string a0_0,.string a0_1,.int .i64 a0_2] 30 (0,0)) aq1):gb101 ≠ gb108));have NB108_101:=am ((by rw [hg];exact Nat.ne_of_gt (blk_lt (g:=gb101) (o:=.cells #[.string a0_0,.string a0_1,.int .i64 a0_2] 30 (0,0)) aq1):gb108 ≠ gb101));replace BK101:=am (bb BK101 hb);clear hb hbox hg;have hnb52:=NB108_101.out;have hnc52:=NB101_108.out;obtain ⟨hcz53_0,hcz53_1,hcz53_2,hfz53_0,hfz53_1,hfz53_2⟩:=blk3_ BK108.out;obtain ⟨Ao54,co54,eo54⟩:=Kd.R_slice HO106.out;subst eo54))
  have n0_:Aside0 (Kd.R (Kd.int .u8) 5 (((w51.setCell ⟨gb108,0,none⟩ (.int .i64 t102)).setCell ⟨gb108,1,none⟩ (.int .i64 t103)).setCell ⟨gb108,2,none⟩ (.slice Ao54 t104.length co54)) w.heap.size (fun _=>True) (.slice Ao54 t104.length co54) t104):=⟨by (with_reducible repeat (first | apply Kd.R_alloc | apply Kd.R_drewN | apply Kd.R_drew));exact Kd.R_mono (Kd.R_far (p:=⟨gb108,2,none⟩) (Kd.R_far (p:=⟨gb108,1,none⟩) (Kd.R_far (p:=⟨gb108,0,none⟩) (Kd.R_types HO106.out BK108.out d_c) (fun _ hk=>hk.2) (.int .i64 t102)) (fun _ hk=>hk.2) (.int .i64 t103)) (fun _ hk=>hk.2) (.slice Ao54 t104.length co54)) (fun _ hk=>trivial)⟩
  have n1_:Aside0 ((((w51.setCell ⟨gb108,0,none⟩ (.int .i64 t102)).setCell ⟨gb108,1,none⟩ (.int .i64 t103)).setCell ⟨gb108,2,none⟩ (.slice Ao54 t104.length co54)).heap[gb101]? = some (.cells #[.string a0_0,.string a0_1,.int .i64 a0_2] 30 (0,0))):=⟨aq31⟩
  have n2_:Aside0 ((((w51.setCell ⟨gb108,0,none⟩ (.int .i64 t102)).setCell ⟨gb108,1,none⟩ (.int .i64 t103)).setCell ⟨gb108,2,none⟩ (.slice Ao54 t104.length co54)).heap[gb108]? = some (.cells #[.int .i64 t102,.int .i64 t103,.slice Ao54 t104.length co54] 75 (0,0))):=⟨aq14⟩
  have n3_:Aside0 (Below w.heap.size w (((w51.setCell ⟨gb108,0,none⟩ (.int .i64 t102)).setCell ⟨gb108,1,none⟩ (.int .i64 t103)).setCell ⟨gb108,2,none⟩ (.slice Ao54 t104.length co54))):=⟨aq18⟩
  (try clear HO106)
  (try clear BK101)
  (try clear BK108)
  (try clear HB)
  generalize (((w51.setCell ⟨gb108,0,none⟩ (.int .i64 t102)).setCell ⟨gb108,1,none⟩ (.int .i64 t103)).setCell ⟨gb108,2,none⟩ (.slice Ao54 t104.length co54)) = w55 at n0_ n1_ n2_ n3_ ⊢
  have HO106:=n0_
  have BK101:=n1_
  have BK108:=n2_
  have HB:=n3_
  clear n0_ n1_ n2_ n3_
  replace HO106:=am (Kd.R_drew HO106.out)
  replace BK101:=am (blk_drew BK101.out)
  replace BK108:=am (blk_drew BK108.out)
  replace HB:=am (below_drew1 HB.out)
  refine start_ (n:=16) (S:=fun w'=>w'.cell? ⟨gb101,0,none⟩ = some (.string a0_0) ∧ w'.cell? ⟨gb101,1,none⟩ = some (.string a0_1) ∧ w'.cell? ⟨gb101,2,none⟩ = some (.int .i64 a0_2)) (ds:=[]) (bm 16 0) k_r rfl rfl ⟨bk BK101 0,bk BK101 1,bk BK101 2⟩ (fun hHeld=>?_);refine with_tabW spec_puGood.tab2 spec_puGood.bits2 (fun HT_ HW_=>?_)
  generalize w55.drew = w56 at HO106 BK101 BK108 HB hHeld ⊢
  refine py (i:=0) (N:=some 11) (bm 16 1) ?_
  refine py (i:=1) (N:=some 12) (bm 16 3) ?_
  refine py (i:=2) (N:=some 13) (bm 16 7) ?_
  refine py (i:=3) (N:=some 14) (bm 16 15) ?_
  refine tk3 (i:=4) (N:=some 15) (bm 16 31) hHeld ?_
  refine one_ (i:=5) (N:=some 16) (bm 16 63) rfl rfl (one_of HT_.out k_r) d_c (fun K hK=>?_)
  refine goes_ Tryz.func106 k_r rfl #[.string a0_1] (by rfl) rfl rfl aq6 ?_
  with_reducible refine (spec_reName.calls a0_1 false _ A4.out).mono ?_
  rintro e w' ⟨rfl,⟨nd,rfl⟩⟩
  refine ⟨_,rfl,?_⟩
  refine hK.out _ _ ⟨bk BK101 0,bk BK101 1,bk BK101 2⟩ (fun hHeld=>?_)
  clear hK K
  refine nm (some 16) ?_
  refine py (i:=6) (N:=some 17) (bm 16 127) ?_
  refine py (i:=7) (N:=some 18) (bm 16 255) ?_
  refine py (i:=8) (N:=some 19) (bm 16 511) ?_
  refine pu (i:=9) (N:=some 20) (bm 16 1023) ?_
  refine pu (i:=10) (N:=some 21) (bm 16 2047) ?_
  refine pu (i:=11) (N:=some 22) (bm 16 4095) ?_
  refine pu (i:=12) (N:=some 23) (bm 16 8191) ?_
  refine pu (i:=13) (N:=some 24) (bm 16 16383) ?_
  refine pu (i:=14) (N:=some 25) (bm 16 32767) ?_
  refine py (i:=15) (N:=some 26) (bm 16 65535) ?_
  refine done_ (done_of HT_.out k_r) ?_
  try go_wp2
  go_ret
  exact ⟨aq8,aq18⟩
 subst c5
 rw [if_pos rfl] at H
 replace H:=gd H
 obtain ⟨c6,H⟩:=H
 have c6b0:=decide_eq_true c6
 have c6b1:decide (0 < a0_1.size) = true:=decide_eq_true o_m
 clear c6
 obtain ⟨t110,A8,H⟩:=bn H
 by_cases c9:t110 < 0
 ·rw [if_pos c9] at H
  have c9b0:=decide_eq_true c9
  clear c9
  obtain rfl:=Option.some.inj H
  go_enter Tryz.func92,Tryz.ntmps92
  try go_wp2_with (first | (refine bx 1 #[.string a0_0,.string a0_1,.int .i64 a0_2] 30 ?_;intro gb101 hg w10 hbox hb;have BK101:=am (hbox);have GW101:=am ((by rw [hg];exact (below_size aq2):w.heap.size ≤ gb101));have GE101:=GW101;replace HB:=am (below_step aq2 hb);clear hb hbox hg;obtain ⟨hcz11_0,hcz11_1,hcz11_2,hfz11_0,hfz11_1,hfz11_2⟩:=blk3_ BK101.out) | ((with_reducible refine gate_callee (f:=63) rfl ?_);refine goesL_ (some 8) rfl rfl Tryz.func63 k_r rfl #[.string a0_0] rfl aq6 ?_;(with_reducible refine (spec_tyRead.calls k a0_0 t102 t103 t104 true _ A2.out).mono ?_);rintro e w12 ⟨v105,rfl,ho0,hb⟩;refine ⟨_,rfl,?_⟩;have HO106:=am (Kd.R_lower ho0 (below_size aq0));replace BK101:=am (bb BK101 hb);replace HB:=am (below_step aq0 hb);(try clear hb);(try clear ho0)) | (refine bx 3 #[.int .i64 0,.int .i64 0,.slice none 0 0] 75 ?_;intro gb108 hg w13 hbox hb;replace HO106:=am (Kd.R_below aq22 hb);have BK108:=am (hbox);have GW108:=am ((by rw [hg];exact (below_size aq0):w.heap.size ≤ gb108));have GE108:=GW108;replace HB:=am (below_step aq0 hb);have NB101_108:=am ((by rw [hg];exact Nat.ne_of_lt (blk_lt (g:=gb101) (o:=.cells #[.string a0_0,.string a0_1,.int .i64 a0_2] 30 (0,0)) aq1):gb101 ≠ gb108));have NB108_101:=am ((by rw [hg];exact Nat.ne_of_gt (blk_lt (g:=gb101) (o:=.cells #[.string a0_0,.string a0_1,.int .i64 a0_2] 30 (0,0)) aq1):gb108 ≠ gb101));replace BK101:=am (bb BK101 hb);clear hb hbox hg;have hnb14:=NB108_101.out;have hnc14:=NB101_108.out;obtain ⟨hcz15_0,hcz15_1,hcz15_2,hfz15_0,hfz15_1,hfz15_2⟩:=blk3_ BK108.out;obtain ⟨Ao16,co16,eo16⟩:=Kd.R_slice HO106.out;subst eo16))
  have n0_:Aside0 (Kd.R (Kd.int .u8) 5 (((w13.setCell ⟨gb108,0,none⟩ (.int .i64 t102)).setCell ⟨gb108,1,none⟩ (.int .i64 t103)).setCell ⟨gb108,2,none⟩ (.slice Ao16 t104.length co16)) w.heap.size (fun _=>True) (.slice Ao16 t104.length co16) t104):=⟨by (with_reducible repeat (first | apply Kd.R_alloc | apply Kd.R_drewN | apply Kd.R_drew));exact Kd.R_mono (Kd.R_far (p:=⟨gb108,2,none⟩) (Kd.R_far (p:=⟨gb108,1,none⟩) (Kd.R_far (p:=⟨gb108,0,none⟩) (Kd.R_types HO106.out BK108.out d_c) (fun _ hk=>hk.2) (.int .i64 t102)) (fun _ hk=>hk.2) (.int .i64 t103)) (fun _ hk=>hk.2) (.slice Ao16 t104.length co16)) (fun _ hk=>trivial)⟩
  have n1_:Aside0 ((((w13.setCell ⟨gb108,0,none⟩ (.int .i64 t102)).setCell ⟨gb108,1,none⟩ (.int .i64 t103)).setCell ⟨gb108,2,none⟩ (.slice Ao16 t104.length co16)).heap[gb101]? = some (.cells #[.string a0_0,.string a0_1,.int .i64 a0_2] 30 (0,0))):=⟨aq31⟩
  have n2_:Aside0 ((((w13.setCell ⟨gb108,0,none⟩ (.int .i64 t102)).setCell ⟨gb108,1,none⟩ (.int .i64 t103)).setCell ⟨gb108,2,none⟩ (.slice Ao16 t104.length co16)).heap[gb108]? = some (.cells #[.int .i64 t102,.int .i64 t103,.slice Ao16 t104.length co16] 75 (0,0))):=⟨aq14⟩
  have n3_:Aside0 (Below w.heap.size w (((w13.setCell ⟨gb108,0,none⟩ (.int .i64 t102)).setCell ⟨gb108,1,none⟩ (.int .i64 t103)).setCell ⟨gb108,2,none⟩ (.slice Ao16 t104.length co16))):=⟨aq18⟩
  (try clear HO106)
  (try clear BK101)
  (try clear BK108)
  (try clear HB)
  generalize (((w13.setCell ⟨gb108,0,none⟩ (.int .i64 t102)).setCell ⟨gb108,1,none⟩ (.int .i64 t103)).setCell ⟨gb108,2,none⟩ (.slice Ao16 t104.length co16)) = w17 at n0_ n1_ n2_ n3_ ⊢
  have HO106:=n0_
  have BK101:=n1_
  have BK108:=n2_
  have HB:=n3_
  clear n0_ n1_ n2_ n3_
  replace HO106:=am (Kd.R_drew HO106.out)
  replace BK101:=am (blk_drew BK101.out)
  replace BK108:=am (blk_drew BK108.out)
  replace HB:=am (below_drew1 HB.out)
  refine start_ (n:=16) (S:=fun w'=>w'.cell? ⟨gb101,0,none⟩ = some (.string a0_0) ∧ w'.cell? ⟨gb101,1,none⟩ = some (.string a0_1) ∧ w'.cell? ⟨gb101,2,none⟩ = some (.int .i64 a0_2) ∧ w'.cell? ⟨gb108,0,none⟩ = some (.int .i64 t102) ∧ w'.cell? ⟨gb108,1,none⟩ = some (.int .i64 t103) ∧ w'.cell? ⟨gb108,2,none⟩ = some (.slice Ao16 t104.length co16)) (ds:=[]) (bm 16 0) k_r rfl rfl ⟨bk BK101 0,bk BK101 1,bk BK101 2,bk BK108 0,bk BK108 1,bk BK108 2⟩ (fun hHeld=>?_);refine with_tabW spec_puGood.tab2 spec_puGood.bits2 (fun HT_ HW_=>?_)
  generalize w17.drew = w18 at HO106 BK101 BK108 HB hHeld ⊢
  refine py (i:=0) (N:=some 11) (bm 16 1) ?_
  refine py (i:=1) (N:=some 12) (bm 16 3) ?_
  refine py (i:=2) (N:=some 13) (bm 16 7) ?_
  refine py (i:=3) (N:=some 14) (bm 16 15) ?_
  refine tk6 (i:=4) (N:=some 15) (bm 16 31) hHeld ?_
  refine one_ (i:=5) (N:=some 16) (bm 16 63) rfl rfl (one_of HT_.out k_r) d_c (fun K hK=>?_)
  refine goes_ Tryz.func106 k_r rfl #[.string a0_1] (by rfl) rfl rfl aq6 ?_
  with_reducible refine (spec_reName.calls a0_1 true _ A4.out).mono ?_
  rintro e w' ⟨rfl,⟨nd,rfl⟩⟩
  refine ⟨_,rfl,?_⟩
  have p7:0 ≤ (0:Int):=o_m
  have q7:0 < a0_1.size:=(by have:(0:Int) < (a0_1.size:Int):=of_decide_eq_true aq4;omega)
  have hx7:∀ h:0 < a0_1.size,((a0_1[0]'h).toNat:Int) = bt a0_1 0:=bt_at a0_1 0
  clear p7
  have qi7:(0 < (a0_1.size:Int)) = True:=eq_true (of_decide_eq_true aq4)
  replace q7:=eq_true q7
  refine hK.out _ _ ⟨bk BK101 0,bk BK101 1,bk BK101 2,bk BK108 0,bk BK108 1,bk BK108 2⟩ (fun hHeld=>?_)
  clear hK K
  refine nm (some 16) ?_
  refine py (i:=6) (N:=some 17) (bm 16 127) ?_
  refine py (i:=7) (N:=some 18) (bm 16 255) ?_
  refine py (i:=8) (N:=some 19) (bm 16 511) ?_
  refine py (i:=10) (N:=some 21) (bm 16 1535) ?_
  refine tk6 (i:=9) (N:=some 20) (bm 16 2047) hHeld ?_
  refine tk6 (i:=11) (N:=some 22) (bm 16 4095) hHeld ?_
  refine tk6 (i:=12) (N:=some 23) (bm 16 8191) hHeld ?_
  refine one_ (i:=13) (N:=some 24) (bm 16 16383) rfl rfl (one_of HT_.out k_r) d_c (fun K hK=>?_)
  refine goes_ Tryz.func56 k_r rfl #[.agg #[.int .i64 t102,.int .i64 t103,.slice Ao16 t104.length co16],.int .u8 (bt a0_1 0)] (by rfl) rfl rfl aq6 ?_
  with_reducible refine (spec_tiPlace.calls k t102 t103 _ _ t104 (bt a0_1 0) t110 _ ?side1 ?side2 A8.out).mono ?_
  (case side1=>exact aq35)
  (case side2=>exact aq112)
  rintro e w19 ⟨rfl,hb⟩
  refine ⟨_,rfl,?_⟩
  replace HO106:=am (Kd.R_below aq22 hb)
  replace BK101:=am (bb BK101 hb)
  replace BK108:=am (bb BK108 hb)
  replace HB:=am (below_step aq18 hb)
  (try clear hb)
  refine hK.out _ _ ⟨bk BK101 0,bk BK101 1,bk BK101 2,bk BK108 0,bk BK108 1,bk BK108 2⟩ (fun hHeld=>?_)
  clear hK K
  refine nm (some 24) ?_
  refine py (i:=14) (N:=some 25) (bm 16 32767) ?_
  refine py (i:=15) (N:=some 26) (bm 16 65535) ?_
  refine done_ (done_of HT_.out k_r) ?_
  try go_wp2
  go_ret
  exact ⟨aq8,aq18⟩
 rw [if_neg c9] at H
 have c9b0:=decide_eq_false c9
 clear c9
 obtain ⟨t111,A20,H⟩:=bn H
 by_cases c21:t111 = true
 rotate_left
 ·replace c21:=Bool.eq_false_iff.mpr c21
  subst c21
  rw [if_neg Bool.false_ne_true] at H
  obtain rfl:=Option.some.inj H
  go_enter Tryz.func92,Tryz.ntmps92
  try go_wp2_with (first | (refine bx 1 #[.string a0_0,.string a0_1,.int .i64 a0_2] 30 ?_;intro gb101 hg w36 hbox hb;have BK101:=am (hbox);have GW101:=am ((by rw [hg];exact (below_size aq2):w.heap.size ≤ gb101));have GE101:=GW101;replace HB:=am (below_step aq2 hb);clear hb hbox hg;obtain ⟨hcz37_0,hcz37_1,hcz37_2,hfz37_0,hfz37_1,hfz37_2⟩:=blk3_ BK101.out) | ((with_reducible refine gate_callee (f:=63) rfl ?_);refine goesL_ (some 8) rfl rfl Tryz.func63 k_r rfl #[.string a0_0] rfl aq6 ?_;(with_reducible refine (spec_tyRead.calls k a0_0 t102 t103 t104 true _ A2.out).mono ?_);rintro e w38 ⟨v105,rfl,ho0,hb⟩;refine ⟨_,rfl,?_⟩;have HO106:=am (Kd.R_lower ho0 (below_size aq0));replace BK101:=am (bb BK101 hb);replace HB:=am (below_step aq0 hb);(try clear hb);(try clear ho0)) | (refine bx 3 #[.int .i64 0,.int .i64 0,.slice none 0 0] 75 ?_;intro gb108 hg w39 hbox hb;replace HO106:=am (Kd.R_below aq22 hb);have BK108:=am (hbox);have GW108:=am ((by rw [hg];exact (below_size aq0):w.heap.size ≤ gb108));have GE108:=GW108;replace HB:=am (below_step aq0 hb);have NB101_108:=am ((by rw [hg];exact Nat.ne_of_lt (blk_lt (g:=gb101) (o:=.cells #[.string a0_0,.string a0_1,.int .i64 a0_2] 30 (0,0)) aq1):gb101 ≠ gb108));have NB108_101:=am ((by rw [hg];exact Nat.ne_of_gt (blk_lt (g:=gb101) (o:=.cells #[.string a0_0,.string a0_1,.int .i64 a0_2] 30 (0,0)) aq1):gb108 ≠ gb101));replace BK101:=am (bb BK101 hb);clear hb hbox hg;have hnb40:=NB108_101.out;have hnc40:=NB101_108.out;obtain ⟨hcz41_0,hcz41_1,hcz41_2,hfz41_0,hfz41_1,hfz41_2⟩:=blk3_ BK108.out;obtain ⟨Ao42,co42,eo42⟩:=Kd.R_slice HO106.out;subst eo42))
  have n0_:Aside0 (Kd.R (Kd.int .u8) 5 (((w39.setCell ⟨gb108,0,none⟩ (.int .i64 t102)).setCell ⟨gb108,1,none⟩ (.int .i64 t103)).setCell ⟨gb108,2,none⟩ (.slice Ao42 t104.length co42)) w.heap.size (fun _=>True) (.slice Ao42 t104.length co42) t104):=⟨by (with_reducible repeat (first | apply Kd.R_alloc | apply Kd.R_drewN | apply Kd.R_drew));exact Kd.R_mono (Kd.R_far (p:=⟨gb108,2,none⟩) (Kd.R_far (p:=⟨gb108,1,none⟩) (Kd.R_far (p:=⟨gb108,0,none⟩) (Kd.R_types HO106.out BK108.out d_c) (fun _ hk=>hk.2) (.int .i64 t102)) (fun _ hk=>hk.2) (.int .i64 t103)) (fun _ hk=>hk.2) (.slice Ao42 t104.length co42)) (fun _ hk=>trivial)⟩
  have n1_:Aside0 ((((w39.setCell ⟨gb108,0,none⟩ (.int .i64 t102)).setCell ⟨gb108,1,none⟩ (.int .i64 t103)).setCell ⟨gb108,2,none⟩ (.slice Ao42 t104.length co42)).heap[gb101]? = some (.cells #[.string a0_0,.string a0_1,.int .i64 a0_2] 30 (0,0))):=⟨aq31⟩
  have n2_:Aside0 ((((w39.setCell ⟨gb108,0,none⟩ (.int .i64 t102)).setCell ⟨gb108,1,none⟩ (.int .i64 t103)).setCell ⟨gb108,2,none⟩ (.slice Ao42 t104.length co42)).heap[gb108]? = some (.cells #[.int .i64 t102,.int .i64 t103,.slice Ao42 t104.length co42] 75 (0,0))):=⟨aq14⟩
  have n3_:Aside0 (Below w.heap.size w (((w39.setCell ⟨gb108,0,none⟩ (.int .i64 t102)).setCell ⟨gb108,1,none⟩ (.int .i64 t103)).setCell ⟨gb108,2,none⟩ (.slice Ao42 t104.length co42))):=⟨aq18⟩
  (try clear HO106)
  (try clear BK101)
  (try clear BK108)
  (try clear HB)
  generalize (((w39.setCell ⟨gb108,0,none⟩ (.int .i64 t102)).setCell ⟨gb108,1,none⟩ (.int .i64 t103)).setCell ⟨gb108,2,none⟩ (.slice Ao42 t104.length co42)) = w43 at n0_ n1_ n2_ n3_ ⊢
  have HO106:=n0_
  have BK101:=n1_
  have BK108:=n2_
  have HB:=n3_
  clear n0_ n1_ n2_ n3_
  replace HO106:=am (Kd.R_drew HO106.out)
  replace BK101:=am (blk_drew BK101.out)
  replace BK108:=am (blk_drew BK108.out)
  replace HB:=am (below_drew1 HB.out)
  refine start_ (n:=16) (S:=fun w'=>w'.cell? ⟨gb101,0,none⟩ = some (.string a0_0) ∧ w'.cell? ⟨gb101,1,none⟩ = some (.string a0_1) ∧ w'.cell? ⟨gb101,2,none⟩ = some (.int .i64 a0_2) ∧ w'.cell? ⟨gb108,0,none⟩ = some (.int .i64 t102) ∧ w'.cell? ⟨gb108,1,none⟩ = some (.int .i64 t103) ∧ w'.cell? ⟨gb108,2,none⟩ = some (.slice Ao42 t104.length co42)) (ds:=[]) (bm 16 0) k_r rfl rfl ⟨bk BK101 0,bk BK101 1,bk BK101 2,bk BK108 0,bk BK108 1,bk BK108 2⟩ (fun hHeld=>?_);refine with_tabW spec_puGood.tab2 spec_puGood.bits2 (fun HT_ HW_=>?_)
  generalize w43.drew = w44 at HO106 BK101 BK108 HB hHeld ⊢
  refine py (i:=0) (N:=some 11) (bm 16 1) ?_
  refine py (i:=1) (N:=some 12) (bm 16 3) ?_
  refine py (i:=2) (N:=some 13) (bm 16 7) ?_
  refine py (i:=3) (N:=some 14) (bm 16 15) ?_
  refine tk6 (i:=4) (N:=some 15) (bm 16 31) hHeld ?_
  refine one_ (i:=5) (N:=some 16) (bm 16 63) rfl rfl (one_of HT_.out k_r) d_c (fun K hK=>?_)
  refine goes_ Tryz.func106 k_r rfl #[.string a0_1] (by rfl) rfl rfl aq6 ?_
  with_reducible refine (spec_reName.calls a0_1 true _ A4.out).mono ?_
  rintro e w' ⟨rfl,⟨nd,rfl⟩⟩
  refine ⟨_,rfl,?_⟩
  have p7:0 ≤ (0:Int):=o_m
  have q7:0 < a0_1.size:=(by have:(0:Int) < (a0_1.size:Int):=of_decide_eq_true aq4;omega)
  have hx7:∀ h:0 < a0_1.size,((a0_1[0]'h).toNat:Int) = bt a0_1 0:=bt_at a0_1 0
  clear p7
  have qi7:(0 < (a0_1.size:Int)) = True:=eq_true (of_decide_eq_true aq4)
  replace q7:=eq_true q7
  refine hK.out _ _ ⟨bk BK101 0,bk BK101 1,bk BK101 2,bk BK108 0,bk BK108 1,bk BK108 2⟩ (fun hHeld=>?_)
  clear hK K
  refine nm (some 16) ?_
  refine py (i:=6) (N:=some 17) (bm 16 127) ?_
  refine py (i:=7) (N:=some 18) (bm 16 255) ?_
  refine py (i:=8) (N:=some 19) (bm 16 511) ?_
  refine py (i:=10) (N:=some 21) (bm 16 1535) ?_
  refine tk6 (i:=9) (N:=some 20) (bm 16 2047) hHeld ?_
  refine tk6 (i:=11) (N:=some 22) (bm 16 4095) hHeld ?_
  refine tk6 (i:=12) (N:=some 23) (bm 16 8191) hHeld ?_
  refine one_ (i:=13) (N:=some 24) (bm 16 16383) rfl rfl (one_of HT_.out k_r) d_c (fun K hK=>?_)
  refine goes_ Tryz.func56 k_r rfl #[.agg #[.int .i64 t102,.int .i64 t103,.slice Ao42 t104.length co42],.int .u8 (bt a0_1 0)] (by rfl) rfl rfl aq6 ?_
  with_reducible refine (spec_tiPlace.calls k t102 t103 _ _ t104 (bt a0_1 0) t110 _ ?side1 ?side2 A8.out).mono ?_
  (case side1=>exact aq35)
  (case side2=>exact aq112)
  rintro e w45 ⟨rfl,hb⟩
  refine ⟨_,rfl,?_⟩
  replace HO106:=am (Kd.R_below aq22 hb)
  replace BK101:=am (bb BK101 hb)
  replace BK108:=am (bb BK108 hb)
  replace HB:=am (below_step aq18 hb)
  (try clear hb)
  refine hK.out _ _ ⟨bk BK101 0,bk BK101 1,bk BK101 2,bk BK108 0,bk BK108 1,bk BK108 2⟩ (fun hHeld=>?_)
  clear hK K
  refine nm (some 24) ?_
  refine py (i:=14) (N:=some 25) (bm 16 32767) ?_
  refine py (i:=15) (N:=some 26) (bm 16 65535) ?_
  refine done_ (done_of HT_.out k_r) ?_
  obtain ⟨hcz46_0,hcz46_1,hcz46_2,hfz46_0,hfz46_1,hfz46_2⟩:=blk3_ BK101.out
  obtain ⟨hcz47_0,hcz47_1,hcz47_2,hfz47_0,hfz47_1,hfz47_2⟩:=blk3_ BK108.out
  try go_wp2_with (first | ((with_reducible refine gate_callee (f:=68) rfl ?_);refine goesL_ (some 33) rfl rfl Tryz.func68 k_r rfl #[.int .i64 a0_2,.int .i64 0,.int .i64 (wrap64 ((t104.length:Int) - 1))] rfl aq6 ?_;(with_reducible refine (spec_l1In.calls a0_2 0 (wrap64 ((t104.length:Int) - 1)) false _ A20.out).mono ?_);rintro e w' ⟨rfl,⟨nd,rfl⟩⟩;refine ⟨_,rfl,?_⟩))
  go_ret
  exact ⟨aq8,aq18⟩
 subst c21
 rw [if_pos rfl] at H
 replace H:=gd H
 obtain ⟨c22,H⟩:=H
 have c22b0:=decide_eq_true c22
 clear c22
 replace H:=gd H
 obtain ⟨c23,H⟩:=H
 have c23b0:=decide_eq_true c23
 clear c23
 obtain rfl:=Option.some.inj H
 go_enter Tryz.func92,Tryz.ntmps92
 try go_wp2_with (first | (refine bx 1 #[.string a0_0,.string a0_1,.int .i64 a0_2] 30 ?_;intro gb101 hg w24 hbox hb;have BK101:=am (hbox);have GW101:=am ((by rw [hg];exact (below_size aq2):w.heap.size ≤ gb101));have GE101:=GW101;replace HB:=am (below_step aq2 hb);clear hb hbox hg;obtain ⟨hcz25_0,hcz25_1,hcz25_2,hfz25_0,hfz25_1,hfz25_2⟩:=blk3_ BK101.out) | ((with_reducible refine gate_callee (f:=63) rfl ?_);refine goesL_ (some 8) rfl rfl Tryz.func63 k_r rfl #[.string a0_0] rfl aq6 ?_;(with_reducible refine (spec_tyRead.calls k a0_0 t102 t103 t104 true _ A2.out).mono ?_);rintro e w26 ⟨v105,rfl,ho0,hb⟩;refine ⟨_,rfl,?_⟩;have HO106:=am (Kd.R_lower ho0 (below_size aq0));replace BK101:=am (bb BK101 hb);replace HB:=am (below_step aq0 hb);(try clear hb);(try clear ho0)) | (refine bx 3 #[.int .i64 0,.int .i64 0,.slice none 0 0] 75 ?_;intro gb108 hg w27 hbox hb;replace HO106:=am (Kd.R_below aq22 hb);have BK108:=am (hbox);have GW108:=am ((by rw [hg];exact (below_size aq0):w.heap.size ≤ gb108));have GE108:=GW108;replace HB:=am (below_step aq0 hb);have NB101_108:=am ((by rw [hg];exact Nat.ne_of_lt (blk_lt (g:=gb101) (o:=.cells #[.string a0_0,.string a0_1,.int .i64 a0_2] 30 (0,0)) aq1):gb101 ≠ gb108));have NB108_101:=am ((by rw [hg];exact Nat.ne_of_gt (blk_lt (g:=gb101) (o:=.cells #[.string a0_0,.string a0_1,.int .i64 a0_2] 30 (0,0)) aq1):gb108 ≠ gb101));replace BK101:=am (bb BK101 hb);clear hb hbox hg;have hnb28:=NB108_101.out;have hnc28:=NB101_108.out;obtain ⟨hcz29_0,hcz29_1,hcz29_2,hfz29_0,hfz29_1,hfz29_2⟩:=blk3_ BK108.out;obtain ⟨Ao30,co30,eo30⟩:=Kd.R_slice HO106.out;subst eo30))
 have n0_:Aside0 (Kd.R (Kd.int .u8) 5 (((w27.setCell ⟨gb108,0,none⟩ (.int .i64 t102)).setCell ⟨gb108,1,none⟩ (.int .i64 t103)).setCell ⟨gb108,2,none⟩ (.slice Ao30 t104.length co30)) w.heap.size (fun _=>True) (.slice Ao30 t104.length co30) t104):=⟨by (with_reducible repeat (first | apply Kd.R_alloc | apply Kd.R_drewN | apply Kd.R_drew));exact Kd.R_mono (Kd.R_far (p:=⟨gb108,2,none⟩) (Kd.R_far (p:=⟨gb108,1,none⟩) (Kd.R_far (p:=⟨gb108,0,none⟩) (Kd.R_types HO106.out BK108.out d_c) (fun _ hk=>hk.2) (.int .i64 t102)) (fun _ hk=>hk.2) (.int .i64 t103)) (fun _ hk=>hk.2) (.slice Ao30 t104.length co30)) (fun _ hk=>trivial)⟩
 have n1_:Aside0 ((((w27.setCell ⟨gb108,0,none⟩ (.int .i64 t102)).setCell ⟨gb108,1,none⟩ (.int .i64 t103)).setCell ⟨gb108,2,none⟩ (.slice Ao30 t104.length co30)).heap[gb101]? = some (.cells #[.string a0_0,.string a0_1,.int .i64 a0_2] 30 (0,0))):=⟨aq31⟩
 have n2_:Aside0 ((((w27.setCell ⟨gb108,0,none⟩ (.int .i64 t102)).setCell ⟨gb108,1,none⟩ (.int .i64 t103)).setCell ⟨gb108,2,none⟩ (.slice Ao30 t104.length co30)).heap[gb108]? = some (.cells #[.int .i64 t102,.int .i64 t103,.slice Ao30 t104.length co30] 75 (0,0))):=⟨aq14⟩
 have n3_:Aside0 (Below w.heap.size w (((w27.setCell ⟨gb108,0,none⟩ (.int .i64 t102)).setCell ⟨gb108,1,none⟩ (.int .i64 t103)).setCell ⟨gb108,2,none⟩ (.slice Ao30 t104.length co30))):=⟨aq18⟩
 (try clear HO106)
 (try clear BK101)
 (try clear BK108)
 (try clear HB)
 generalize (((w27.setCell ⟨gb108,0,none⟩ (.int .i64 t102)).setCell ⟨gb108,1,none⟩ (.int .i64 t103)).setCell ⟨gb108,2,none⟩ (.slice Ao30 t104.length co30)) = w31 at n0_ n1_ n2_ n3_ ⊢
 have HO106:=n0_
 have BK101:=n1_
 have BK108:=n2_
 have HB:=n3_
 clear n0_ n1_ n2_ n3_
 replace HO106:=am (Kd.R_drew HO106.out)
 replace BK101:=am (blk_drew BK101.out)
 replace BK108:=am (blk_drew BK108.out)
 replace HB:=am (below_drew1 HB.out)
 refine start_ (n:=16) (S:=fun w'=>w'.cell? ⟨gb101,0,none⟩ = some (.string a0_0) ∧ w'.cell? ⟨gb101,1,none⟩ = some (.string a0_1) ∧ w'.cell? ⟨gb101,2,none⟩ = some (.int .i64 a0_2) ∧ w'.cell? ⟨gb108,0,none⟩ = some (.int .i64 t102) ∧ w'.cell? ⟨gb108,1,none⟩ = some (.int .i64 t103) ∧ w'.cell? ⟨gb108,2,none⟩ = some (.slice Ao30 t104.length co30)) (ds:=[]) (bm 16 0) k_r rfl rfl ⟨bk BK101 0,bk BK101 1,bk BK101 2,bk BK108 0,bk BK108 1,bk BK108 2⟩ (fun hHeld=>?_);refine with_tabW spec_puGood.tab2 spec_puGood.bits2 (fun HT_ HW_=>?_)
 generalize w31.drew = w32 at HO106 BK101 BK108 HB hHeld ⊢
 refine py (i:=0) (N:=some 11) (bm 16 1) ?_
 refine py (i:=1) (N:=some 12) (bm 16 3) ?_
 refine py (i:=2) (N:=some 13) (bm 16 7) ?_
 refine py (i:=3) (N:=some 14) (bm 16 15) ?_
 refine tk6 (i:=4) (N:=some 15) (bm 16 31) hHeld ?_
 refine one_ (i:=5) (N:=some 16) (bm 16 63) rfl rfl (one_of HT_.out k_r) d_c (fun K hK=>?_)
 refine goes_ Tryz.func106 k_r rfl #[.string a0_1] (by rfl) rfl rfl aq6 ?_
 with_reducible refine (spec_reName.calls a0_1 true _ A4.out).mono ?_
 rintro e w' ⟨rfl,⟨nd,rfl⟩⟩
 refine ⟨_,rfl,?_⟩
 have p7:0 ≤ (0:Int):=o_m
 have q7:0 < a0_1.size:=(by have:(0:Int) < (a0_1.size:Int):=of_decide_eq_true aq4;omega)
 have hx7:∀ h:0 < a0_1.size,((a0_1[0]'h).toNat:Int) = bt a0_1 0:=bt_at a0_1 0
 clear p7
 have qi7:(0 < (a0_1.size:Int)) = True:=eq_true (of_decide_eq_true aq4)
 replace q7:=eq_true q7
 refine hK.out _ _ ⟨bk BK101 0,bk BK101 1,bk BK101 2,bk BK108 0,bk BK108 1,bk BK108 2⟩ (fun hHeld=>?_)
 clear hK K
 refine nm (some 16) ?_
 refine py (i:=6) (N:=some 17) (bm 16 127) ?_
 refine py (i:=7) (N:=some 18) (bm 16 255) ?_
 refine py (i:=8) (N:=some 19) (bm 16 511) ?_
 refine py (i:=10) (N:=some 21) (bm 16 1535) ?_
 refine tk6 (i:=9) (N:=some 20) (bm 16 2047) hHeld ?_
 refine tk6 (i:=11) (N:=some 22) (bm 16 4095) hHeld ?_
 refine tk6 (i:=12) (N:=some 23) (bm 16 8191) hHeld ?_
 refine one_ (i:=13) (N:=some 24) (bm 16 16383) rfl rfl (one_of HT_.out k_r) d_c (fun K hK=>?_)
 refine goes_ Tryz.func56 k_r rfl #[.agg #[.int .i64 t102,.int .i64 t103,.slice Ao30 t104.length co30],.int .u8 (bt a0_1 0)] (by rfl) rfl rfl aq6 ?_
 with_reducible refine (spec_tiPlace.calls k t102 t103 _ _ t104 (bt a0_1 0) t110 _ ?side1 ?side2 A8.out).mono ?_
 (case side1=>exact aq35)
 (case side2=>exact aq112)
 rintro e w33 ⟨rfl,hb⟩
 refine ⟨_,rfl,?_⟩
 replace HO106:=am (Kd.R_below aq22 hb)
 replace BK101:=am (bb BK101 hb)
 replace BK108:=am (bb BK108 hb)
 replace HB:=am (below_step aq18 hb)
 (try clear hb)
 refine hK.out _ _ ⟨bk BK101 0,bk BK101 1,bk BK101 2,bk BK108 0,bk BK108 1,bk BK108 2⟩ (fun hHeld=>?_)
 clear hK K
 refine nm (some 24) ?_
 refine py (i:=14) (N:=some 25) (bm 16 32767) ?_
 refine py (i:=15) (N:=some 26) (bm 16 65535) ?_
 refine done_ (done_of HT_.out k_r) ?_
 obtain ⟨hcz34_0,hcz34_1,hcz34_2,hfz34_0,hfz34_1,hfz34_2⟩:=blk3_ BK101.out
 obtain ⟨hcz35_0,hcz35_1,hcz35_2,hfz35_0,hfz35_1,hfz35_2⟩:=blk3_ BK108.out
 try go_wp2_with (first | ((with_reducible refine gate_callee (f:=68) rfl ?_);refine goesL_ (some 33) rfl rfl Tryz.func68 k_r rfl #[.int .i64 a0_2,.int .i64 0,.int .i64 (wrap64 ((t104.length:Int) - 1))] rfl aq6 ?_;(with_reducible refine (spec_l1In.calls a0_2 0 (wrap64 ((t104.length:Int) - 1)) true _ A20.out).mono ?_);rintro e w' ⟨rfl,⟨nd,rfl⟩⟩;refine ⟨_,rfl,?_⟩;have p112:0 ≤ (a0_2:Int):=of_decide_eq_true aq4;have q112:a0_2 < (t104.length:Int):=of_decide_eq_true aq4;obtain ⟨ad112,e112,hx112_0⟩:=Kd.at_int (Kd.R_reads' HO106.out).2.2 a0_2 p112 q112;cases e112;replace p112:=eq_true p112;replace q112:=eq_true q112))
 go_ret
 exact ⟨aq8,aq18⟩
end Go.Proofs.YtldhkbiomingbaaGreatDoor.F

namespace Go.Proofs.YtldhkbiomingbaaGreatDoor.F
open Go.RowKit Go.Proofs.YtldhkbiomingbaaGreatDoor Go.YW.PrintWords Go.YW.PrintMore
def puzB (t n:ByteArray) (goal:Int):Bool:=match tyGrid (bytesOf t) with
 | none=>false
 | some g=>if oneName n = true ∧ firstAt g.2.2 (bt n 0) < g.2.2.length then (if 0 ≤ goal ∧ goal < (g.2.2.length:Int) then g.2.2.getD goal.toNat 0 != 35 else false) else false
theorem tray_small {g:(Nat × Nat × List Int)} (v:Vg g):1 ≤ g.2.2.length ∧ g.2.2.length ≤ 36:=by
 rw [show g.2.2.length = g.1 * g.2.1 from v.len]
 exact ⟨Nat.mul_pos v.w1 v.h1,v.small⟩
theorem impl_isNumber_ev (t:ByteArray) (l:List Int) (ht:t.size < 4294967281):Ev (fun k=>impl_isNumber.f k t l) (match tyGrid (bytesOf t) with | none=>false | some g=>l.all (inR 0 ((g.2.2.length:Int) - 1))):=by
 have h1:=impl_IsTray_ev t ht
 cases hg:tyGrid (bytesOf t) with
 | none =>
  rw [hg] at h1
  exact Ev.bind h1 (Ev.congr (fun k=>if_neg (by simp)) (Ev.now _))
 | some g =>
  rw [hg] at h1
  obtain ⟨v,_⟩:=textB_grid hg
  obtain ⟨w,h,cs⟩:=g
  have hs:=tray_small v
  refine Ev.bind h1 (Ev.congr (fun k=>if_pos (by simp)) (Ev.congr (fun k=>?_) (Ev.now _)))
  rw [impl_read_eq t hg,Option.bind_some]
  show (impl_areWithin.f l 0 (wrap64 ((cs.length:Int) - 1))).bind _ = _
  simp only at hs
  rw [w64 o_m o_m,impl_areWithin.f,Option.bind_some]
theorem impl_IsPuzzle_ev (t n:ByteArray) (goal:Int) (ht:t.size < 4294967281):Ev (fun k=>impl_IsPuzzle.f k t n goal) (puzB t n goal):=by
 have h1:=impl_cellOf_ev t n ht
 have h2:=impl_isNumber_ev t [goal] ht
 unfold cellOfAns at h1
 unfold puzB
 cases hg:tyGrid (bytesOf t) with
 | none =>
  rw [hg] at h1
  exact Ev.bind h1 (Ev.congr (fun k=>if_neg (by simp)) (Ev.now _))
 | some g =>
  rw [hg] at h1 h2
  obtain ⟨w,h,cs⟩:=g
  obtain ⟨v,_⟩:=textB_grid hg
  have hs:=tray_small v
  simp only at h1 h2 hs ⊢
  by_cases hn:oneName n = true
  rotate_left
  ·rw [if_neg hn] at h1
   rw [if_neg (fun q=>hn q.1)]
   exact Ev.bind h1 (Ev.congr (fun k=>if_neg (by simp)) (Ev.now _))
  rw [if_pos hn] at h1
  by_cases hf:firstAt cs (bt n 0) < cs.length
  rotate_left
  ·rw [if_neg hf] at h1
   rw [if_neg (fun q=>hf q.2)]
   exact Ev.bind h1 (Ev.congr (fun k=>if_neg (by simp)) (Ev.now _))
  rw [if_pos hf] at h1
  rw [if_pos ⟨hn,hf⟩]
  refine Ev.bind h1 (Ev.congr (fun k=>if_pos rfl) (Ev.bind h2 ?_))
  by_cases hq:0 ≤ goal ∧ goal < (cs.length:Int)
  rotate_left
  ·have e:[goal].all (inR 0 ((cs.length:Int) - 1)) = false:=by simp [inR];omega
   rw [e,if_neg hq]
   exact Ev.congr (fun k=>if_neg Bool.false_ne_true) (Ev.now _)
  have e:[goal].all (inR 0 ((cs.length:Int) - 1)) = true:=by simp [inR];omega
  rw [e,if_pos hq]
  refine Ev.congr (fun k=>?_) (Ev.now _)
  rw [if_pos rfl,impl_read_eq t hg,Option.bind_some,if_pos hq.1]
  exact if_pos hq.2
theorem tiPlace_l0 {cs:List Int} (hl:cs.length ≤ 1000) (c:Int):∀ (d i:Nat),i + d = cs.length → (∀ j,j < i → ∀ hj:j < cs.length,cs[j] ≠ c) →
  Ev (fun k=>spec_tiPlace.l0 k c cs (cs.length:Int) i) (if firstAt cs c < cs.length then (firstAt cs c:Int) else -1)
 | 0,i,hi,hn=>by
  obtain rfl:i = cs.length:=by omega
  rw [first_none (fun j hj=>hn j hj hj),if_neg o_m]
  exact Ev.step (f:=fun _=>some (-1)) (fun k=>by rw [spec_tiPlace.l0,if_neg o_m]) (Ev.now _)
 | d + 1,i,hi,hn=>by
  have hlt:i < cs.length:=by omega
  have hrd:rd cs (i:Int) = cs[i]:=by unfold rd;rw [Int.toNat_natCast,List.getD_eq_getElem?_getD,List.getElem?_eq_getElem hlt];rfl
  by_cases he:cs[i] = c
  ·rw [first_split hn hlt he,if_pos hlt]
   refine Ev.step (f:=fun _=>some (i:Int)) (fun k=>?_) (Ev.now _)
   rw [spec_tiPlace.l0,if_pos o_m,if_pos o_m,if_pos o_m,hrd,if_pos he]
  have ih:=tiPlace_l0 hl c d (i + 1) o_m (fun j hj hj'=>by
   by_cases e:j = i
   ·subst e;exact he
   ·exact hn j o_m hj')
  refine Ev.step (fun k=>?_) ih
  rw [spec_tiPlace.l0,if_pos o_m,if_pos o_m,if_pos o_m,hrd,if_neg he,show (i:Int) + 1 = ((i + 1:Nat):Int) by omega,w64t o_m]
theorem tiPlace_ev {cs:List Int} (hl:cs.length ≤ 1000) (w h c:Int):Ev (fun k=>spec_tiPlace.f k w h cs c) (if firstAt cs c < cs.length then (firstAt cs c:Int) else -1):=tiPlace_l0 hl c cs.length 0 o_m (fun j hj=>by omega)
theorem reName_eq (n:ByteArray):spec_reName.f n = some (oneName n):=by
 unfold spec_reName.f oneName isNameC
 by_cases h1:n.size = 1
 rotate_left
 ·rw [if_neg o_m,decide_eq_false h1,Bool.false_and]
 rw [if_pos o_m,if_pos o_m,decide_eq_true h1,Bool.true_and]
 by_cases h2:bt n 0 ≥ 97
 rotate_left
 ·rw [if_neg h2,decide_eq_false (show ¬ 97 ≤ bt n 0 from h2),Bool.false_and]
 rw [if_pos h2,decide_eq_true (show 97 ≤ bt n 0 from h2),Bool.true_and]
theorem spec_puGood_ev (t n:ByteArray) (goal:Int):Ev (fun k=>spec_puGood.f k t n goal) (puzB t n goal):=by
 have hT:=spec_tyRead_ev t
 unfold puzB
 refine Ev.bind hT ?_
 cases hg:tyGrid (bytesOf t) with
 | none=>exact Ev.congr (fun k=>if_neg (by simp [ansT])) (Ev.now _)
 | some g =>
  obtain ⟨w,h,cs⟩:=g
  obtain ⟨v,_⟩:=textB_grid hg
  have hs:=tray_small v
  simp only at hs ⊢
  refine Ev.congr (fun k=>if_pos rfl) ?_
  refine Ev.congr (fun k=>by rw [reName_eq,Option.bind_some]) ?_
  by_cases hn:oneName n = true
  rotate_left
  ·rw [if_neg (show ¬ (oneName n = true ∧ firstAt cs (bt n 0) < cs.length) from fun q=>hn q.1)]
   exact Ev.congr (fun k=>if_neg hn) (Ev.now _)
  have hz:n.size = 1:=by
   unfold oneName at hn
   rw [Bool.and_eq_true,decide_eq_true_iff] at hn
   exact hn.1
  refine Ev.congr (fun k=>by rw [if_pos hn,if_pos o_m]) ?_
  refine Ev.bind (tiPlace_ev (cs:=cs) o_m w h (bt n 0)) ?_
  by_cases hf:firstAt cs (bt n 0) < cs.length
  rotate_left
  ·rw [if_neg hf,if_neg (show ¬ (oneName n = true ∧ firstAt cs (bt n 0) < cs.length) from fun q=>hf q.2)]
   exact Ev.congr (fun k=>if_pos (show (-1:Int) < 0 by decide)) (Ev.now _)
  rw [if_pos hf,if_pos (show oneName n = true ∧ firstAt cs (bt n 0) < cs.length from ⟨hn,hf⟩)]
  refine Ev.congr (fun k=>if_neg (show ¬ ((firstAt cs (bt n 0):Nat):Int) < 0 by omega)) ?_
  have HW:Aside0 (wrap64 ((cs.length:Int) - 1) = (cs.length:Int) - 1):=⟨w64 o_m o_m⟩
  refine Ev.congr (f:=fun _=>some (if 0 ≤ goal ∧ goal < (cs.length:Int) then cs.getD goal.toNat 0 != 35 else false)) (fun k=>?_) (Ev.now _)
  show ((spec_l1In.f goal 0 (wrap64 ((cs.length:Int) - 1))).bind _) = _
  rw [HW.out]
  unfold spec_l1In.f
  by_cases hq:0 ≤ goal ∧ goal < (cs.length:Int)
  ·rw [if_pos hq.1,Option.bind_some,if_pos (decide_eq_true o_m),if_pos hq]
   rw [if_pos hq.1]
   exact if_pos hq.2
  rw [if_neg hq]
  by_cases hq0:goal ≥ 0
  rotate_left
  ·rw [if_neg hq0,Option.bind_some,if_neg Bool.false_ne_true]
  rw [if_pos hq0,Option.bind_some,if_neg (by simp only [decide_eq_true_eq];omega)]
end Go.Proofs.YtldhkbiomingbaaGreatDoor.F

namespace Go.Proofs.YtldhkbiomingbaaGreatDoor.F
open Go.Proofs.YtldhkbiomingbaaGreatDoor
open Go.RowKit Go.YW.PrintWords Go.YW.PrintMore
def goalAt (s:RS) (n goal:Int):Nat:=(cellsI s n).findIdx fun c=>decide (c = goal)
theorem goalAt_of {s:RS} {n goal:Int} {i:Nat} (h:∀ j,j < i → j < s.T.length → placeI n (s.T.getD j []) ≠ goal) (hi:i < s.T.length) (he:placeI n (s.T.getD i []) = goal):goalAt s n goal = i:=by
 unfold goalAt
 have hi':i < (cellsI s n).length:=by rw [cellsI_len];exact hi
 rw [List.findIdx_eq hi']
 have get:∀ j (hj:j < (cellsI s n).length),(cellsI s n)[j] = placeI n (s.T.getD j []):=fun j hj=>by
  rw [← cellsI_get s n (by rw [cellsI_len] at hj;exact hj),getD_lt hj]
 refine ⟨by rw [get];exact decide_eq_true he,fun j hj=>?_⟩
 rw [get]
 exact decide_eq_false (h j hj o_m)
theorem goalAt_none {s:RS} {n goal:Int} (h:∀ j,j < s.T.length → placeI n (s.T.getD j []) ≠ goal):goalAt s n goal = s.T.length:=by
 unfold goalAt
 rw [← cellsI_len s n,List.findIdx_eq_length]
 intro c hc
 obtain ⟨j,hj,rfl⟩:=List.getElem_of_mem hc
 have hj':j < s.T.length:=by rw [cellsI_len] at hj;exact hj
 rw [← getD_lt (d:=0) hj,cellsI_get s n hj']
 exact decide_eq_false (h j hj')
def puS (t n:ByteArray) (goal:Int):Option (Nat × Nat × RS × Nat):=if puzB t n goal = true then (srch t).bind fun q=>if goalAt q.2.2 (bt n 0) goal < q.2.2.T.length then some (q.1,q.2.1,q.2.2,goalAt q.2.2 (bt n 0) goal) else none else none
theorem puS_some {t n:ByteArray} {goal:Int} {w h i:Nat} {s:RS} (e:puS t n goal = some (w,h,s,i)):puzB t n goal = true ∧ srch t = some (w,h,s) ∧ goalAt s (bt n 0) goal = i ∧ i < s.T.length:=by
 unfold puS at e
 by_cases hp:puzB t n goal = true
 rotate_left
 ·rw [if_neg hp] at e;cases e
 rw [if_pos hp] at e
 obtain ⟨⟨w',h',s'⟩,hs,e⟩:=Option.bind_eq_some_iff.1 e
 simp only at e
 by_cases hl:goalAt s' (bt n 0) goal < s'.T.length
 rotate_left
 ·rw [if_neg hl] at e;cases e
 rw [if_pos hl] at e
 injection e with e
 injection e with e1 e
 injection e with e2 e
 injection e with e3 e4
 subst e1 e2 e3 e4
 exact ⟨hp,hs,rfl,hl⟩
def puFar (t n:ByteArray) (goal:Int):Int × Bool:=match puS t n goal with
 | none=>(0,false)
 | some q=>(((q.2.2.1.F.getD q.2.2.2 0:Nat):Int),decide (q.2.2.1.F.getD q.2.2.2 0 ≤ 40))
end Go.Proofs.YtldhkbiomingbaaGreatDoor.F

namespace Go.Proofs.YtldhkbiomingbaaGreatDoor
open Go.RowKit Go.YW.PrintWords Go.YW.PrintLast Go.YW.PrintMore Go.Lib
attribute [local go_sem] max2_int min2_int
def placeN (ns:List Node) (x:ByteArray):Nat:=ns.findIdx fun n=>decide (n.text = x)
theorem placeN_at {ns:List Node} {x:ByteArray} {i:Nat} (h:∀ j,j < i → ∀ hj:j < ns.length,(decide (ns[j].text = x)) = false) (hi:i < ns.length) (he:(decide (ns[i].text = x)) = true):placeN ns x = i:=by
 unfold placeN
 rw [List.findIdx_eq hi]
 exact ⟨he,fun j hj=>h j hj o_m⟩
theorem placeN_none {ns:List Node} {x:ByteArray} (h:∀ j,∀ hj:j < ns.length,(decide (ns[j].text = x)) = false):placeN ns x = ns.length:=by
 unfold placeN
 rw [List.findIdx_eq_length]
 intro n hn
 obtain ⟨j,hj,rfl⟩:=List.getElem_of_mem hn
 exact h j hj
def placeR (ns:List Node) (x:ByteArray):Int:=if placeN ns x < ns.length then (placeN ns x:Int) else -1
theorem text_beq (a b:ByteArray):(a.toList == b.toList) = decide (a = b):=by
 rw [Bool.eq_iff_iff,beq_iff_eq,decide_eq_true_iff]
 refine ⟨fun e=>?_,fun e=>congrArg _ e⟩
 rw [ByteArray.toList_eq,ByteArray.toList_eq] at e
 exact ByteArray.ext (Array.toList_inj.1 e)
theorem rePlace_calls (b o c:Nat) (ns:List Node) (x:ByteArray) (W:World) (hc:ns.length ≤ c) (hn:ns.length < 65536) (hat:∀ W',Below W.heap.size W W' → ∀ i (hi:i < ns.length),NodeC W' b o i (ns[i]'hi)) :
  Calls Tryz.prog 101 #[.slice (some ⟨b,o,none⟩) ns.length c,.string x] W fun e w'=>e = .returned (.int .i64 (placeR ns x)) ∧ Below W.heap.size W w':=by
 have HAT:=am hat
 have HC:=am hc
 have HN:=am hn
 clear hat hc hn
 go_enter Tryz.func101,Tryz.ntmps101
 go_wp2
 go_loopw [9] (fun v9 wr=>∃ i:Nat,i ≤ ns.length ∧ v9 = .int .i64 i ∧ Aside0 (∀ j,j < i → ∀ hj:j < ns.length,(decide (ns[j].text = x)) = false) ∧ Aside0 (Below W.heap.size W wr)) (fun v9 _=>ns.length - (intOf v9).toNat)
 case atStart=>exact ⟨0,Nat.zero_le _,rfl,⟨fun j hj=>absurd hj (Nat.not_lt_zero j)⟩,⟨Below.refl _ _⟩⟩
 case round =>
  obtain ⟨i,hi,rfl,HF,HB⟩:=hrel
  by_cases hlt:i < ns.length
  rotate_left
  ·have hge:¬ (i:Int) < (ns.length:Int):=by omega
   obtain rfl:i = ns.length:=by omega
   have hp:=placeN_none (fun j hj=>HF.out j hj hj)
   have HP:=am hp
   clear hp
   go_wp2
   go_ret
   exact ⟨by have e:=HP.out;simp [placeR,e],HB.out⟩
  obtain ⟨p,Ag,cg,Ax,cx,zp,z0,z1,z2,z3,_⟩:=HAT.out wr HB.out i hlt
  have hltI:(i:Int) < (ns.length:Int):=by omega
  have HL:=am hlt
  have HX:=am (text_beq ns[i].text x)
  have HP:=am (fun he:(decide (ns[i].text = x)) = true=>placeN_at HF.out hlt he)
  have HNO:=am (fun he:(decide (ns[i].text = x)) = false=>(fun j hj hj'=>by
   by_cases e:j = i
   ·subst e;exact he
   ·exact HF.out j o_m hj':∀ j,j < i + 1 → ∀ hj:j < ns.length,(decide (ns[j].text = x)) = false))
  have hw1:IntKind.i64.wrap ((i:Int) + 1) = ((i + 1:Nat):Int):=by rw [IntKind.wrap_i64];have:=HN.out;omega
  clear z0 z1 z2
  generalize ns[i].text = tx at *
  cases hb:decide (tx = x) with
  | true =>
   have hb2:(tx.toList == x.toList) = true:=by rw [HX.out,hb]
   go_wp2
   go_ret
   exact ⟨by have e:=HP.out hb;have l:=HL.out;simp [placeR,e,l],HB.out⟩
  | false =>
   have hb2:(tx.toList == x.toList) = false:=by rw [HX.out,hb]
   go_wp2
   go_roundw
   case rel=>exact ⟨i + 1,HL.out,by first | rfl | simp,⟨HNO.out hb⟩,HB⟩
   case measure=>have:=HL.out;simp [intOf];omega
end Go.Proofs.YtldhkbiomingbaaGreatDoor

namespace Go.Proofs.YtldhkbiomingbaaGreatDoor
def seeB (l:List Nat) (st:List Bool × List Nat):List Bool × List Nat:=l.foldl (fun st a=>if st.1.getD a false = true then st else (st.1.set a true,st.2 ++ [a])) st
def cloB (N:List (List Nat)):Nat → Nat → List Bool × List Nat → List Bool × List Nat
 | 0,_,st=>st
 | f + 1,k,st=>if k < st.2.length then cloB N f (k + 1) (seeB (N.getD (st.2.getD k 0) []) st) else st
def fromB (N:List (List Nat)) (n i:Nat):List Bool:=(cloB N (n + 1) 0 ((List.replicate n false).set i true,[i])).1
inductive Way (N:List (List Nat)):Nat → Nat → Prop
 | here (i:Nat):Way N i i
 | step {i j k:Nat}:Way N i j → k ∈ N.getD j [] → Way N i k
theorem Way.trans {N:List (List Nat)} {i j k:Nat} (h:Way N i j) (h':Way N j k):Way N i k:=by
 induction h' with
 | here=>exact h
 | step _ hk ih=>exact .step ih hk
structure CloOk (N:List (List Nat)) (n i:Nat) (st:List Bool × List Nat):Prop where
 len:st.1.length = n
 dup:st.2.Nodup
 seen:∀ j,st.1.getD j false = true ↔ j ∈ st.2
 low:∀ j ∈ st.2,j < n
 way:∀ j ∈ st.2,Way N i j
 start:i ∈ st.2
end Go.Proofs.YtldhkbiomingbaaGreatDoor

namespace Go.Proofs.YtldhkbiomingbaaGreatDoor
open Go.Proofs.YtldhkbiomingbaaGreatDoor.F
open Go.RowKit Go.YW.PrintWords Go.YW.PrintLast Go.YW.PrintMore Go.Lib
attribute [local go_sem] max2_int min2_int
theorem R_off {α:Type} {d:Kd α} {e t:TypeId} {w:World} {base:Nat} {v:Value} {xs:List α} {p:Addr} {cells:Array Value} {fr:Nat × Nat} (hE:d.E = []) (h:d.R e w base (fun _=>True) v xs) (hb:w.heap[p.block]? = some (.cells cells t fr)) (hne:e ≠ t) (u:Value):d.R e (w.setCell p u) base (fun _=>True) v xs :=
 R_true (Kd.R_step (Kd.R_bound h) (fun k hk _=>Below.heap_setCell w p u k (fun e2=>by
  obtain ⟨q,hq,cs,hc⟩:=hk.2.2.2
  rw [hE,List.mem_singleton] at hq
  subst hq
  rw [e2,hb] at hc
  injection hc with hc
  injection hc with _ ht _
  exact hne ht.symm)))
theorem rd_bool (l:List Bool) (i:Nat):rdOf false l (i:Int) = l.getD i false:=by
 unfold rdOf;rw [Int.toNat_natCast]
theorem CloOk.one {N:List (List Nat)} {n i a:Nat} {st:List Bool × List Nat} (o:CloOk N n i st) (ha:a < n) (hw:Way N i a) (hs:st.1.getD a false = false):CloOk N n i (st.1.set a true,st.2 ++ [a]):=by
 have hna:a ∉ st.2:=fun h=>by rw [(o.seen a).2 h] at hs;cases hs
 refine ⟨by rw [List.length_set];exact o.len,by rw [List.nodup_append];exact ⟨o.dup,by simp,fun x hx y hy=>by rw [List.mem_singleton.1 hy];rintro rfl;exact hna hx⟩,fun j=>?_,fun j hj=>?_,fun j hj=>?_,List.mem_append_left _ o.start⟩
 ·have hal:a < st.1.length:=by rw [o.len];exact ha
  rw [List.mem_append,List.mem_singleton,List.getD_eq_getElem?_getD,List.getElem?_set]
  by_cases e:a = j
  ·subst e;simp [hal]
  rw [if_neg e,← List.getD_eq_getElem?_getD,o.seen j]
  exact ⟨fun h=>.inl h,fun h=>h.resolve_right (fun q=>e q.symm)⟩
 ·rcases List.mem_append.1 hj with h | h
  ·exact o.low j h
  ·rw [List.mem_singleton.1 h];exact ha
 ·rcases List.mem_append.1 hj with h | h
  ·exact o.way j h
  ·rw [List.mem_singleton.1 h];exact hw
structure FromAt (base g cap n:Nat) (st:List Bool × List Nat) (v:Value) (w:World):Prop where
 b:Kd.R Kd.bool 4 w base (fun _=>True) (.slice (some ⟨g,0,none⟩) n cap) st.1
 q:Kd.R (Kd.int .i64) 3 w base (fun _=>True) v (st.2.map Int.ofNat)
theorem FromAt.put {base g cap n:Nat} {st:List Bool × List Nat} {v:Value} {w:World} (h:FromAt base g cap n st v w) (hn:0 < n) (a:Nat):FromAt base g cap n (st.1.set a true,st.2) v (w.setCell ⟨g,a,none⟩ (.bool true)):=by
 have h1:=Kd.R_putn h.b (a:Int) true
 rw [Int.toNat_natCast] at h1
 obtain ⟨cells,hc⟩:=Kd.R_typed h.b g rfl
 exact ⟨h1,R_off rfl h.q hc d_c _⟩
end Go.Proofs.YtldhkbiomingbaaGreatDoor

namespace Go.Proofs.YtldhkbiomingbaaGreatDoor.F
open Go.Proofs.YtldhkbiomingbaaGreatDoor
open Go.RowKit Go.YW.PrintWords Go.YW.PrintLast Go.YW.PrintMore Go.Lib
def ptrS:Kd Nat:=Kd.scalar (fun p:Nat=>Value.pointer (some ⟨p,0,none⟩)) (fun _=>rfl)
def txG (w h:Nat) (c:List Int):ByteArray:=textB (w,h,c)
structure AllAt (w0 W:World) (w h:Nat) (cs0:List Int) (s:RS) (Q:List Int) (P:List Nat) (L:List NodeM) (v:Value):Prop where
 ok:RS.Ok w h cs0 s
 lQ:Q.length = s.T.length
 ns:L.map NodeM.n = nodesL (txG w h) w h s Q P
 nd:Nodes 77 W w0.heap.size L
 row:ptrS.R 73 W w0.heap.size (fun _=>True) v (L.map NodeM.p)
 bel:Below w0.heap.size w0 W
section
variable {w0 W w1:World} {w h:Nat} {cs0:List Int} {s:RS} {Q:List Int} {P:List Nat} {L:List NodeM} {v:Value}
theorem AllAt.len (a:AllAt w0 W w h cs0 s Q P L v):L.length = s.T.length:=by
 have:=congrArg List.length a.ns
 rwa [List.length_map,nodesL_len] at this
theorem AllAt.node (a:AllAt w0 W w h cs0 s Q P L v) {i:Nat} (hi:i < L.length):(L[i]'hi).n = nodeF (txG w h) w h s Q P i:=by
 have h1:(L.map NodeM.n)[i]? = some (L[i]'hi).n:=by rw [List.getElem?_map,List.getElem?_eq_getElem hi];rfl
 rw [a.ns,List.getElem?_eq_getElem (by rw [nodesL_len,← a.len];exact hi),nodesL_get] at h1
 exact (Option.some.inj h1).symm
theorem AllAt.blk (a:AllAt w0 W w h cs0 s Q P L v) {i:Nat} (hi:i < L.length):W.heap[(L[i]'hi).p]? = some (.cells (L[i]'hi).cells 77 (0,0)):=(a.nd.at_ _ (List.getElem_mem hi)).blk
theorem AllAt.apart (a:AllAt w0 W w h cs0 s Q P L v):∀ q ∈ L,some q.p ≠ v.ownBlock:=fun q hq=>Kd.R_ne a.row (a.nd.at_ q hq).blk d_c
theorem AllAt.below (a:AllAt w0 W w h cs0 s Q P L v) (hb:Below W.heap.size W w1):AllAt w0 w1 w h cs0 s Q P L v :=
 ⟨a.ok,a.lQ,a.ns,a.nd.below hb,Kd.R_below a.row hb,below_step a.bel hb⟩
theorem AllAt.reads (a:AllAt w0 W w h cs0 s Q P L v):Kd.R (ptrK 77 nodeK) 73 W w0.heap.size (fun _=>True) v (nodesL (txG w h) w h s Q P):=by
 have:=a.nd.reads a.row a.apart d_c d_c d_c d_c
 rwa [a.ns] at this
theorem AllAt.opens (a:AllAt w0 W w h cs0 s Q P L v):∃ b o c,v = .slice (some ⟨b,o,none⟩) s.T.length c ∧ s.T.length ≤ c ∧ (∀ i,(hi:i < L.length) → W.cell? ⟨b,o + i,none⟩ = some (.pointer (some ⟨(L[i]'hi).p,0,none⟩))) ∧
  ∀ W',Below W.heap.size W W' → ∀ i (hi:i < (nodesL (txG w h) w h s Q P).length),NodeC W' b o i ((nodesL (txG w h) w h s Q P)[i]'hi):=by
 have hpos:=a.ok.pos
 obtain ⟨b,o,c,e,hc,_,hat⟩:=nodes_open a.reads (fun e=>absurd (show s.T.length = 0 by rw [← nodesL_len (tx:=txG w h) (w:=w) (h:=h) (s:=s) (Q:=Q) (P:=P),e];rfl) o_m)
 rw [nodesL_len] at e hc
 subst e
 refine ⟨b,o,c,rfl,hc,fun i hi=>?_,hat⟩
 obtain ⟨A,c2,e2,_,hC⟩:=Kd.R_reads a.row
 injection e2 with e2 e3 _
 subst e2
 obtain ⟨bk,o',e4,_,hcs⟩:=C_place hC (by rw [List.length_map];omega)
 injection e4 with e4
 injection e4 with e4 e5
 subst e4 e5
 exact hcs i _ (by rw [List.getElem?_map,List.getElem?_eq_getElem hi];rfl)
theorem Nodes.add {tN:TypeId} {base:Nat} (h:Nodes tN W base L) (hB:Below W.heap.size W w1) {p:Nat} (hp:W.heap.size ≤ p) (hb:base ≤ p) {g:Value} {n:Node} (hn:n.next = [])
  (hblk:w1.heap[p]? = some (.cells (NodeM.cells ⟨p,g,.slice none 0 0,n⟩) tN (0,0))) (hg:Kd.R (Kd.int .u8) 5 w1 base (fun _=>True) g n.grid):Nodes tN w1 base (L ++ [⟨p,g,.slice none 0 0,n⟩]):=by
 refine ⟨fun q hq=>?_,?_,?_⟩
 ·rcases List.mem_append.1 hq with hq | hq
  ·exact (h.at_ q hq).below hB
  ·rw [List.mem_singleton.1 hq]
   exact ⟨hb,hblk,hg,by show Kd.R (Kd.int .i64) _ _ _ _ (.slice none 0 0) n.next;rw [hn];exact Kd.R_nil _ _ _ _ _⟩
 ·rw [List.map_append,List.nodup_append]
  refine ⟨h.dup,by simp,fun a ha b hb=>?_⟩
  obtain ⟨q,hq,rfl⟩:=List.mem_map.1 ha
  have:=blk_lt (h.at_ q hq).blk
  rw [List.mem_singleton.1 hb]
  show q.p ≠ p
  omega
 ·rw [List.pairwise_append]
  refine ⟨h.own,by simp,fun a ha b hb k hk=>?_⟩
  rw [List.mem_singleton.1 hb]
  exact fun e=>by cases e
theorem AllAt.push (a:AllAt w0 W w h cs0 s Q P L v) {W1:World} {k d p:Nat} {c:List Int} {u:List Nat} {f:Nat} {g v1:Value} (hk:s.N.length = k) (hkT:k < s.T.length)
  (ok:RS.Ok w h cs0 { s with T:=s.T ++ [c],F:=s.F ++ [f],W:=s.W ++ [u],B:=s.B ++ [(k,d)] })
  (hB:Below W.heap.size W W1) (hp:W.heap.size ≤ p) (hblk:W1.heap[p]? = some (.cells #[.int .i64 w,.int .i64 h,g,.string (txG w h c),.int .i64 f,.int .i64 0,.int .i64 k,.int .i64 d,.slice none 0 0] 77 (0,0)))
  (hg:Kd.R (Kd.int .u8) 5 W1 w0.heap.size (fun _=>True) g c)
  (hr:ptrS.R 73 w1 w0.heap.size (fun _=>True) v1 (L.map NodeM.p ++ [p]))
  (hb:Below w0.heap.size w0 w1)
  (hgr:W1.grownBy w1 v.ownBlock) :
  AllAt w0 w1 w h cs0 { s with T:=s.T ++ [c],F:=s.F ++ [f],W:=s.W ++ [u],B:=s.B ++ [(k,d)] } (Q ++ [0]) P (L ++ [⟨p,g,.slice none 0 0,{ w:=w,h:=h,grid:=c,text:=txG w h c,far:=f,words:=0,before:=k,dir:=d,next:=[] }⟩]) v1:=by
 have hpp:=Nodes.add a.nd hB hp (Nat.le_trans a.bel.size hp) (g:=g) (n:={ w:=w,h:=h,grid:=c,text:=txG w h c,far:=f,words:=0,before:=k,dir:=d,next:=[] }) rfl hblk hg
 refine ⟨ok,by simp [a.lQ],?_,?_,by rw [List.map_append];exact hr,hb⟩
 ·rw [List.map_append,a.ns,nodesL_push a.ok.lF a.ok.lB a.lQ o_m (by have:=a.ok.pos;omega)];rfl
 ·have hty':∀ j,v.ownBlock = some j → ∃ cells,W1.heap[j]? = some (.cells cells 73 (0,0)):=fun j hj=>by
   obtain ⟨cells,hc⟩:=Kd.R_typed a.row j hj
   exact ⟨cells,(hB.block j (blk_lt hc)).trans hc⟩
  refine ⟨fun q hq=>?_,hpp.dup,hpp.own⟩
  have hN:=hpp.at_ q hq
  refine ⟨hN.low,?_,Kd.R_over' hN.grid hty' d_c hgr,Kd.R_over' hN.next hty' d_c hgr⟩
  refine blk_grown hN.blk hgr (fun e=>?_)
  obtain ⟨cells,hc⟩:=hty' _ e.symm
  rw [hN.blk] at hc
  injection hc with hc
  injection hc with _ ht _
  exact absurd ht d_c
theorem AllAt.words (a:AllAt w0 W w h cs0 s Q P L v) {i:Nat} (hi:i < L.length) (x:Int) :
  AllAt w0 (W.setCell ⟨(L[i]'hi).p,5,none⟩ (.int .i64 x)) w h cs0 s (Q.set i x) P (L.set i ⟨(L[i]'hi).p,(L[i]'hi).g,(L[i]'hi).x,{ (L[i]'hi).n with words:=x }⟩) v:=by
 have hil:i < (nodesL (txG w h) w h s Q P).length:=by rw [nodesL_len,← a.len];exact hi
 refine ⟨a.ok,by rw [List.length_set];exact a.lQ,?_,a.nd.put d_c d_c hi rfl rfl ?_,?_,a.bel.setCell (p:=⟨(L[i]'hi).p,5,none⟩) (a.nd.at_ _ (List.getElem_mem hi)).low _⟩
 ·rw [List.map_set,a.ns,nodesL_words hil a.lQ,nodesL_get,a.node hi]
 ·simp [NodeM.cells]
 ·rw [List.map_set]
  have e:(L.map NodeM.p).set i (L[i]'hi).p = L.map NodeM.p:=by
   apply List.ext_getElem (by simp)
   intro j h1 h2
   rw [List.getElem_set]
   split
   ·subst_vars;simp
   ·rfl
  show ptrS.R _ _ _ _ v ((L.map NodeM.p).set i (L[i]'hi).p)
  rw [e]
  exact R_off rfl a.row (a.blk hi) d_c _
theorem AllAt.way (a:AllAt w0 W w h cs0 s Q P L v) {k x:Nat} (hk:s.N.length = k) (hi:k < L.length) {v':Value} (hr:Kd.R (Kd.int .i64) 3 w1 w0.heap.size (fun _=>True) v' ((L[k]'hi).n.next ++ [(x:Int)]))
  (hg:W.grownBy w1 (L[k]'hi).x.ownBlock) (hb:Below w0.heap.size w0 w1) (hat:v'.ownBlock = (L[k]'hi).x.ownBlock ∨ ∃ b,v'.ownBlock = some b ∧ W.heap.size ≤ b) :
  AllAt w0 (w1.setCell ⟨(L[k]'hi).p,8,none⟩ v') w h cs0 s Q (P ++ [x]) (L.set k ⟨(L[k]'hi).p,(L[k]'hi).g,v',{ (L[k]'hi).n with next:=(L[k]'hi).n.next ++ [(x:Int)] }⟩) v:=by
 have hkl:s.N.length < (nodesL (txG w h) w h s Q P).length:=by rw [nodesL_len,← a.len,hk];exact hi
 refine ⟨a.ok,a.lQ,?_,a.nd.way d_c d_c hi hr hg hat,?_,hb.setCell (p:=⟨(L[k]'hi).p,8,none⟩) (a.nd.at_ _ (List.getElem_mem hi)).low _⟩
 ·rw [List.map_set,a.ns,nodesL_way hkl,nodesL_get]
  simp only [hk]
  rw [a.node hi]
 ·rw [List.map_set]
  have e:(L.map NodeM.p).set k (L[k]'hi).p = L.map NodeM.p:=by
   apply List.ext_getElem (by simp)
   intro j h1 h2
   rw [List.getElem_set]
   split
   ·subst_vars;simp
   ·rfl
  show ptrS.R _ _ _ _ v ((L.map NodeM.p).set k (L[k]'hi).p)
  rw [e]
  have h1:=Kd.R_over' a.row (Kd.R_typed (a.nd.at_ _ (List.getElem_mem hi)).next) d_c hg
  have h2:w1.heap[(L[k]'hi).p]? = some (.cells (L[k]'hi).cells 77 (0,0)):=blk_grown (a.blk hi) hg (fun e=>by
   obtain ⟨cells,hc⟩:=Kd.R_typed (a.nd.at_ _ (List.getElem_mem hi)).next _ e.symm
   rw [a.blk hi] at hc
   injection hc with hc
   injection hc with _ ht _
   exact absurd ht d_c)
  exact R_off rfl h1 h2 d_c _
theorem AllAt.row' (a:AllAt w0 W w h cs0 s Q P L v) (ok:RS.Ok w h cs0 { s with N:=s.N ++ [P] }):AllAt w0 W w h cs0 { s with N:=s.N ++ [P] } Q [] L v :=
 ⟨ok,a.lQ,a.ns.trans nodesL_row.symm,a.nd,a.row,a.bel⟩
theorem place_nodes (ok:RS.Ok w h cs0 s) {c:List Int} (vc:Vg (w,h,c)):placeR (nodesL (txG w h) w h s Q P) (txG w h c) = if findT s.T c < s.T.length then (findT s.T c:Int) else -1:=by
 have hN:∀ j,(hj:j < (nodesL (txG w h) w h s Q P).length) → (nodesL (txG w h) w h s Q P)[j].text = txG w h (s.T.getD j []):=fun j hj=>by rw [nodesL_get];rfl
 have hne:∀ j,(hj:j < s.T.length) → s.T[j] ≠ c → txG w h (s.T.getD j []) ≠ txG w h c:=fun j hj hn e=>by
  rw [getD_lt hj] at e
  have:=textB_inj (ok.tray _ (List.getElem_mem hj)) vc e
  injection this with _ this
  injection this with _ this
  exact hn this
 unfold placeR
 by_cases hf:findT s.T c < s.T.length
 ·have e1:placeN (nodesL (txG w h) w h s Q P) (txG w h c) = findT s.T c:=by
   refine placeN_at (fun j hj hjl=>?_) (by rw [nodesL_len];exact hf) ?_
   ·rw [hN j hjl]
    refine decide_eq_false (hne j (by rw [nodesL_len] at hjl;exact hjl) ?_)
    have:=List.not_of_lt_findIdx (p:=(· == c)) (xs:=s.T) (i:=j) hj
    simpa using this
   ·rw [hN _ (by rw [nodesL_len];exact hf),getD_lt hf,findT_get hf];exact decide_eq_true rfl
  rw [e1,nodesL_len]
 have e1:placeN (nodesL (txG w h) w h s Q P) (txG w h c) = (nodesL (txG w h) w h s Q P).length:=by
  refine placeN_none (fun j hj=>?_)
  rw [hN j hj]
  have hj':j < s.T.length:=by rw [nodesL_len] at hj;exact hj
  refine decide_eq_false (hne j hj' (fun e=>hf ?_))
  unfold findT
  rw [List.findIdx_lt_length]
  exact ⟨_,List.getElem_mem hj',by rw [e];exact beq_self_eq_true _⟩
 rw [e1,if_neg (Nat.lt_irrefl _),if_neg hf]
end
end Go.Proofs.YtldhkbiomingbaaGreatDoor.F
