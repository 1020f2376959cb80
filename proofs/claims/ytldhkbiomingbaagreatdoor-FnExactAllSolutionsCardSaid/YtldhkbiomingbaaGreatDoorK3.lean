/- The proof that the law's row holds, part 3: the kit's words, the printed walks and the plain law. No conditions beyond the card's own. -/
import Derived.StillTailTactics
import Derived.Test.YtldhkbiomingbaaGreatDoorK0
import Derived.Test.YtldhkbiomingbaaGreatDoorK1
import Derived.Test.YtldhkbiomingbaaGreatDoorK2
set_option linter.unusedVariables false
set_option linter.unusedSimpArgs false
set_option maxHeartbeats 8000000
set_option maxRecDepth 100000
namespace Go.Proofs.YtldhkbiomingbaaGreatDoor
open Go.RowKit Go.YW.PrintWords Go.YW.PrintLast Go.YW.PrintMore Go.Lib Go.Shelf Go.Proofs.YtldhkbiomingbaaGreatDoor.F Go.Maps
attribute [local go_sem] max2_int min2_int
theorem putAll_put (cs out:List Int) (m:List (Nat × Nat)) (k t:Nat):putAll cs out (m ++ [(k,t)]) = (putAll cs out m).set t (cs.getD k 0):=by rw [putAll_app];rfl
theorem tiTilt_calls (a0 a1 dir:Int) (A2:Option Addr) (c2:Nat) (l2:List Int) (SN:List (List Nat)) (w:World) (hr2:Kd.C (Kd.int .u8) w A2 l2.length l2) (hc2:l2.length ≤ c2)
  (hl:0 < l2.length ∧ l2.length < 65536) (hS:∀ st ∈ SN,∀ i ∈ st,i < l2.length) (hlen1:SN.length < 65536) (hlen2:∀ st ∈ SN,st.length < 65536)
  (hcall:∀ W,Below w.heap.size w W → Calls Tryz.prog 120 #[.agg #[.int .i64 a0,.int .i64 a1,.slice A2 l2.length c2],.int .i64 dir] W fun e w'=>∃ v,e = .returned v ∧ Kd.N (Kd.slice 3 (Kd.int .i64)) 40 w' W.heap.size (fun k_=>W.heap.size ≤ k_) v (SN.map castsI) ∧ Below W.heap.size W w') :
  Calls Tryz.prog 100 #[.agg #[.int .i64 a0,.int .i64 a1,.slice A2 l2.length c2],.int .i64 dir] w fun e w'=>∃ v2_:Value,e = .returned (.agg #[.int .i64 a0,.int .i64 a1,v2_]) ∧ Kd.R (Kd.int .u8) 5 w' w.heap.size (fun _=>True) v2_ (putAll l2 (wallsL l2) (mvs (ballAt l2) SN)) ∧ Below w.heap.size w w':=by
 have hball:∀ (c:Int) (W:World),Calls Tryz.prog 116 #[.int .u8 c] W fun e w'=>e = .returned (.bool (isBallC c)) ∧ w'.heap = W.heap ∧ Below W.heap.size W w':=fun c W=>by
  refine (spec_tyBall.calls c (isBallC c) W (spec_tyBall_is c)).mono ?_
  rintro e w' ⟨rfl,⟨nd,rfl⟩⟩
  exact ⟨rfl,rfl,pw_below_drewN (Below.refl _ _) nd⟩
 have hemp:spec_tyWalls.f a0 a1 l2 = some (a0,a1,wallsL l2):=if_pos hl
 have HR:=am hr2
 have HC:=am hc2
 have HL:=am hl
 have HSS:=am hS
 have HLEN:=am (And.intro hlen1 hlen2)
 have HCALL:=am hcall
 obtain ⟨sb,so,rfl,hsb,hscells⟩:=C_place hr2 hl.1
 have hwalls:∀ W,Below w.heap.size w W → Calls Tryz.prog 119 #[.agg #[.int .i64 a0,.int .i64 a1,.slice (some ⟨sb,so,none⟩) l2.length c2]] W fun e w'=>∃ g co ts,e = .returned (.agg #[.int .i64 a0,.int .i64 a1,.slice (some ⟨g,0,none⟩) l2.length co]) ∧ W.heap.size ≤ g ∧ l2.length ≤ co ∧ w'.heap[g]? = some (.cells ((wallsL l2).map (Value.int .u8) ++ ts).toArray 5 (0,0)) ∧ ts.length + l2.length = co ∧ co ≤ maxLen ∧ Below W.heap.size W w':=fun W hW=>by
  refine (spec_tyWalls.calls a0 a1 _ c2 l2 a0 a1 (wallsL l2) W (Kd.C_below HR.out hW) HC.out hemp).mono ?_
  rintro e w' ⟨v2,rfl,ho,hb⟩
  have hwl:(wallsL l2).length = l2.length:=by simp [wallsL]
  obtain ⟨_,⟨rfl,h0⟩ | ⟨g,cap,cur,rfl,hg,hrow,hcl,hcm,hsz,htk⟩⟩:=Kd.own_of_R (enc:=Value.int .u8) (h1:=fun _=>rfl) ho
  ·have:=HL.out;omega
  ·rw [hwl] at hcl htk
   refine ⟨g,cap,cur.toList.drop l2.length,by rw [hwl],hg,hcl,?_,?_,hcm,hb⟩
   ·rw [hrow]
    congr 2
    have:(wallsL l2).map (Value.int .u8) ++ cur.toList.drop l2.length = cur.toList:=by
     rw [show (wallsL l2).map (Value.int .u8) = cur.toList.take l2.length from by rw [← encs,← htk,Nat.mul_one]]
     exact List.take_append_drop _ _
    rw [this]
   ·rw [List.length_drop,Array.length_toList];omega
 have HSC:=am hscells
 have HSB:=am hsb
 have HB:=am (Below.refl w.heap.size w)
 clear hr2 hc2 hl hS hlen1 hlen2 hscells hsb hcall hemp
 go_enter Tryz.func100,Tryz.ntmps100
 go_wp2_with (first
  | (refine bx 2 #[.int .i64 a0,.int .i64 a1,.slice (some ⟨sb,so,none⟩) l2.length c2] 75 ?_;intro b1 hg1 w3 hbox1 hb1;have G1:=am hg1;have X1:=am hbox1;have B1:=am hb1;clear hg1 hbox1 hb1)
  | (refine bx 4 #[.int .i64 0,.int .i64 0,.slice none 0 0] 75 ?_;intro b2 hg2 w4 hbox2 hb2;have G2:=am hg2;have X2:=am hbox2;have B2:=am (below_step B1.out hb2);have n1:=am (blk_below X1.out hb2);clear X1;have X1:=n1;clear n1;have z10:w4.cell? ⟨b1,0,none⟩ = some (.int .i64 a0):=(blk_cell X1.out 0).trans rfl;have z11:w4.cell? ⟨b1,1,none⟩ = some (.int .i64 a1):=(blk_cell X1.out 1).trans rfl;have z12:w4.cell? ⟨b1,2,none⟩ = some (.slice (some ⟨sb,so,none⟩) l2.length c2):=(blk_cell X1.out 2).trans rfl;clear hg2 hbox2 hb2)
  | (go_at_call 119;refine (hwalls _ B2.out).mono ?_;rintro e w5 ⟨g,co,ts,rfl,hg0,hco,hrow,hts,hcb,hb⟩;have G0:=am hg0;have HCO:=am hco;have HROW:=am hrow;have HTS:=am hts;have HCB:=am hcb;have B5:=am (below_step B2.out hb);have n2:=am (blk_below X2.out hb);have n1:=am (blk_below X1.out hb);clear X1 X2;have X2:=n2;have X1:=n1;clear n1 n2 z10 z11 z12;have hbl:(w5.alloc (.cells #[.int .i64 a0,.int .i64 a1,.slice (some ⟨g,0,none⟩) l2.length co] 75)).heap[b1]? = _:=(((Below.refl _ w5).alloc (Nat.le_refl _) _).block b1 (blk_lt X1.out)).trans X1.out;have z10:(w5.alloc (.cells #[.int .i64 a0,.int .i64 a1,.slice (some ⟨g,0,none⟩) l2.length co] 75)).cell? ⟨b1,0,none⟩ = some (.int .i64 a0):=(blk_cell hbl 0).trans rfl;have z11:(w5.alloc (.cells #[.int .i64 a0,.int .i64 a1,.slice (some ⟨g,0,none⟩) l2.length co] 75)).cell? ⟨b1,1,none⟩ = some (.int .i64 a1):=(blk_cell hbl 1).trans rfl;have z12:(w5.alloc (.cells #[.int .i64 a0,.int .i64 a1,.slice (some ⟨g,0,none⟩) l2.length co] 75)).cell? ⟨b1,2,none⟩ = some (.slice (some ⟨sb,so,none⟩) l2.length c2):=(blk_cell hbl 2).trans rfl;clear hbl hb hg0 hco hrow hts hcb)
  | (go_at_call 120;obtain ⟨b3,hb3⟩:∃ b3,w5.heap.size = b3:=⟨_,rfl⟩;obtain ⟨W8,hW8⟩:∃ W8,w5.alloc (.cells #[.int .i64 a0,.int .i64 a1,.slice (some ⟨g,0,none⟩) l2.length co] 75) = W8:=⟨_,rfl⟩;have hB58:Below b3 w5 W8:=(by rw [← hW8,← hb3];exact (Below.refl _ w5).alloc (Nat.le_refl _) _);have hB8:Below w.heap.size w W8:=(by rw [← hW8];exact B5.out.alloc B5.out.size _);have hsz:W8.heap.size = b3 + 1:=(by rw [← hW8,← hb3];simp);have x3:W8.heap[b3]? = some (.cells #[.int .i64 a0,.int .i64 a1,.slice (some ⟨g,0,none⟩) l2.length co] 75 (0,0)):=(by rw [← hW8,← hb3];exact World.alloc_heap_new w5 _);rw [hW8];(try simp only [hb3]);have HB58:=am hB58;have HB8:=am hB8;have HSZ:=am hsz;have X3:=am x3;have HW8:=am hb3;clear hB58 hB8 hsz x3 hW8 hb3 z10 z11 z12;refine (HCALL.out W8 HB8.out).mono ?_;rintro e w6 ⟨v,rfl,ho,hb⟩;obtain ⟨Av,cv,hv⟩:=Kd.N_slice ho;rw [List.length_map] at hv;subst hv;have ho':=Kd.N_mono ho (ok':=fun k=>b3 < k) (fun k hk=>by have:=HSZ.out;omega);have HO:=am ho';have B6:=am hb;clear ho ho' hb))
 have hgw:w.heap.size ≤ g:=Nat.le_trans B2.out.size G0.out
 have hg5:g < b3:=by rw [← HW8.out];exact blk_lt HROW.out
 have h1w:w.heap.size ≤ b1:=by rw [G1.out];exact Nat.le_refl _
 have h2w:w.heap.size ≤ b2:=by rw [G2.out];exact B1.out.size
 have h15:b1 < b3:=by rw [← HW8.out];exact blk_lt X1.out
 have h25:b2 < b3:=by rw [← HW8.out];exact blk_lt X2.out
 have h3s:b3 < W8.heap.size:=blk_lt X3.out
 have ROW6:=am ((B6.out.block g o_m).trans ((HB58.out.block g hg5).trans HROW.out))
 have Y3:=am ((B6.out.block b3 h3s).trans X3.out)
 have Y1:=am ((B6.out.block b1 o_m).trans ((HB58.out.block b1 h15).trans X1.out))
 have Y2:=am ((B6.out.block b2 o_m).trans ((HB58.out.block b2 h25).trans X2.out))
 have BW:=am (below_step HB8.out B6.out)
 have gb1:b1 ≠ g:=Ne.symm (blk_ne ROW6.out Y1.out d_c)
 have gb2:b2 ≠ g:=Ne.symm (blk_ne ROW6.out Y2.out d_c)
 have gb3:b3 ≠ g:=by omega
 have GB:=am (And.intro gb1 (And.intro gb2 (And.intro gb3 (And.intro hgw h2w))))
 have rows:∀ j,(hj:j < SN.length) → ∃ bk o A0 c0,Av = some ⟨bk,o,none⟩ ∧ SN[j].length ≤ c0 ∧ ∀ W,KeepBut w6 W g none → W.cell? ⟨bk,o + j,none⟩ = some (.slice A0 SN[j].length c0) ∧ Kd.C (Kd.int .i64) W A0 SN[j].length (castsI SN[j]):=fun j hj=>by
  have hgd:(SN.map castsI).getD j [] = castsI SN[j]:=by
   rw [List.getD_eq_getElem?_getD,List.getElem?_map,List.getElem?_eq_getElem hj];rfl
  have get:∀ W,KeepBut w6 W g none → ∃ bk o A0 c0,Av = some ⟨bk,o,none⟩ ∧ W.cell? ⟨bk,o + j,none⟩ = some (.slice A0 SN[j].length c0) ∧ SN[j].length ≤ c0 ∧ Kd.C (Kd.int .i64) W A0 SN[j].length (castsI SN[j]):=fun W hk=>by
   obtain ⟨A,c,e,_,hC⟩:=Kd.N_reads (Kd.N_keep HO.out hk (fun k h=>by omega))
   injection e with e1 e2 e3
   subst e1
   obtain ⟨bk,o,A0,c0,q1,q2,q3,q4⟩:=row_at hC j (by rw [List.length_map];exact hj)
   rw [hgd,castsI_length] at q2 q3 q4
   exact ⟨bk,o,A0,c0,q1,q2,q3,q4⟩
  have k5:KeepBut w6 w6 g none:=⟨Nat.le_refl _,fun _ _ _ _=>rfl⟩
  obtain ⟨bk,o,A0,c0,q1,q2,q3,q4⟩:=get w6 k5
  refine ⟨bk,o,A0,c0,q1,q3,fun W hk=>?_⟩
  obtain ⟨bk',o',A0',c0',r1,r2,r3,r4⟩:=get W hk
  rw [q1] at r1
  injection r1 with r1
  injection r1 with r1 r1'
  subst r1 r1'
  have hne:bk ≠ g:=by
   have:=HO.out.1 bk (by rw [q1];rfl)
   omega
  have he:W.cell? ⟨bk,o + j,none⟩ = w6.cell? ⟨bk,o + j,none⟩:=World.cell?_of_block (hk.2 bk (World.block_lt_of_cell? w6 _ q2) hne (by simp))
  rw [he,q2] at r2
  injection r2 with r2
  injection r2 with r2 _ r2'
  subst r2 r2'
  exact ⟨by rw [he];exact q2,r4⟩
 have ROWS:=am rows
 have K6:=am (show KeepBut w6 w6 g none from ⟨Nat.le_refl _,fun _ _ _ _=>rfl⟩)
 clear rows gb1 gb2 gb3 hgw hg5 h1w h2w h15 h25 h3s HO HCALL hwalls X1 X2 X3 HROW HB58 HB8 B6 HSZ HW8 G0 G1 G2 B1 B2 B5
 go_wp2
 go_loopw [17] (fun v17 wr=>∃ j:Nat,j ≤ SN.length ∧ v17 = .int .i64 j ∧ Aside0 (wr.heap[g]? = some (.cells ((putAll l2 (wallsL l2) (mvs (ballAt l2) (SN.take j))).map (Value.int .u8) ++ ts).toArray 5 (0,0))) ∧ Aside0 (KeepBut w6 wr g none) ∧ Aside0 (Below w.heap.size w wr)) (fun v17 _=>SN.length - (intOf v17).toNat)
 case atStart=>exact ⟨0,Nat.zero_le _,rfl,ROW6,K6,BW⟩
 case round =>
  obtain ⟨j,hj,rfl,Mr,Kr,Br⟩:=hrel
  by_cases hlt:j < SN.length
  rotate_left
  ·have hge:¬ (j:Int) < (SN.length:Int):=by omega
   have M':=Mr.out
   rw [List.take_of_length_le o_m] at M'
   have Z3:wr.heap[b3]? = _:=(Kr.out.2 b3 (blk_lt Y3.out) GB.out.2.2.1 (by simp)).trans Y3.out
   have Z2:wr.heap[b2]? = _:=(Kr.out.2 b2 (blk_lt Y2.out) GB.out.2.1 (by simp)).trans Y2.out
   have y0:wr.cell? ⟨b3,0,none⟩ = some (.int .i64 a0):=(blk_cell Z3 0).trans rfl
   have y1:wr.cell? ⟨b3,1,none⟩ = some (.int .i64 a1):=(blk_cell Z3 1).trans rfl
   have y2:wr.cell? ⟨b3,2,none⟩ = some (.slice (some ⟨g,0,none⟩) l2.length co):=(blk_cell Z3 2).trans rfl
   have e0:wr.cell? ⟨b2,0,none⟩ = some (.int .i64 0):=(blk_cell Z2 0).trans rfl
   have e1:wr.cell? ⟨b2,1,none⟩ = some (.int .i64 0):=(blk_cell Z2 1).trans rfl
   have e2:wr.cell? ⟨b2,2,none⟩ = some (.slice none 0 0):=(blk_cell Z2 2).trans rfl
   have f0:=blk_frozen Z2 0
   have f1:=blk_frozen Z2 1
   have f2:=blk_frozen Z2 2
   have RR:=am M'
   have ZZ2:=am Z2
   clear M' Z2 Z3
   go_wp2
   refine bodyPost_ret (results_cell_row rfl _ _ b2 75 #[.int .i64 a0,.int .i64 a1,.slice (some ⟨g,0,none⟩) l2.length co] (0,0) _ rfl (by exact blk_put (blk_put (blk_put ZZ2.out 0 (.int .i64 a0) rfl) 1 (.int .i64 a1) rfl) 2 (.slice (some ⟨g,0,none⟩) l2.length co) rfl) Tryz.underlying75 rfl k_r) rfl ?_
   obtain ⟨n1,n2,n3,hgw,h2w⟩:=GB.out
   refine ⟨.slice (some ⟨g,0,none⟩) l2.length co,rfl,?_,((Br.out.setCell (p:=⟨b2,0,none⟩) h2w _).setCell (p:=⟨b2,1,none⟩) h2w _).setCell (p:=⟨b2,2,none⟩) h2w _⟩
   have hrl:(putAll l2 (wallsL l2) (mvs (ballAt l2) SN)).length = l2.length:=by rw [putAll_length];simp [wallsL]
   rw [← hrl]
   refine Kd.R_of_own (enc:=Value.int .u8) (h1:=fun _=>rfl) ?_ (fun _ _=>trivial)
   have n2':g ≠ b2:=Ne.symm n2
   refine ⟨by simp [encs],.inr ⟨g,co,_,rfl,hgw,blk_far (blk_far (blk_far RR.out (p:=⟨b2,0,none⟩) n2' _) (p:=⟨b2,1,none⟩) n2' _) (p:=⟨b2,2,none⟩) n2' _,by rw [hrl];exact HCO.out,HCB.out,?_,?_⟩⟩
   ·have:=HTS.out
    simp [hrl];omega
   ·rw [Nat.mul_one,List.take_append_of_le_length (by simp),List.take_of_length_le (by simp)];rfl
  obtain ⟨bk,o,A0,c0,rfl,hc0,hat⟩:=ROWS.out j hlt
  have hcell:=(hat wr Kr.out).1
  have hltI:(j:Int) < (SN.length:Int):=by omega
  have hstl:=HLEN.out.2 SN[j] (List.getElem_mem hlt)
  have hmv:=mvs_take (b:=ballAt l2) hlt
  have hin:=HSS.out SN[j] (List.getElem_mem hlt)
  generalize hst:SN[j] = st at *
  have HMV:=am hmv
  have HAT:=am hat
  have HIN:=am hin
  have HSTL:=am hstl
  have HJ:=am hlt
  clear hmv hat hin hstl hst hj hlt
  go_wp2
  go_loopw [8,23] (fun v8 v23 wq=>∃ i:Nat,i ≤ st.length ∧ v23 = .int .i64 i ∧ v8 = .int .i64 ((((st.take i).filter (ballAt l2)).length:Nat):Int) ∧ Aside0 (wq.heap[g]? = some (.cells ((putAll l2 (wallsL l2) (mvs (ballAt l2) (SN.take j) ++ partM (ballAt l2) st i)).map (Value.int .u8) ++ ts).toArray 5 (0,0))) ∧ Aside0 (KeepBut w6 wq g none) ∧ Aside0 (Below w.heap.size w wq)) (fun _ v23 _=>st.length - (intOf v23).toNat)
  case atStart=>exact ⟨0,Nat.zero_le _,rfl,rfl,⟨by unfold partM;simp;exact Mr.out⟩,Kr,Br⟩
  case round =>
   obtain ⟨i,hi,rfl,rfl,Mq,Kq,Bq⟩:=hrel
   by_cases hlt2:i < st.length
   rotate_left
   ·have hge:¬ (i:Int) < (st.length:Int):=by omega
    obtain rfl:i = st.length:=by omega
    have M2:Aside0 (wr.heap[g]? = some (.cells ((putAll l2 (wallsL l2) (mvs (ballAt l2) (SN.take (j + 1)))).map (Value.int .u8) ++ ts).toArray 5 (0,0))):=⟨by rw [HMV.out];exact Mq.out⟩
    have hw:IntKind.i64.wrap ((j:Int) + 1) = ((j + 1:Nat):Int):=by rw [IntKind.wrap_i64];have:=HLEN.out.1;have:=HJ.out;omega
    go_wp2
    go_roundw
    case rel=>exact ⟨j + 1,by have:=HJ.out;omega,by first | rfl | simp,M2,Kq,Bq⟩
    case measure=>have:=HJ.out;simp [intOf];omega
   obtain ⟨_,hCq⟩:=HAT.out wr Kq.out
   obtain ⟨bo,oo,hA0,hbo,hcs⟩:=C_place (by rw [← castsI_length st] at hCq;exact hCq) (by rw [castsI_length];omega)
   have x1:wr.cell? ⟨bo,oo + i,none⟩ = some (.int .i64 ((st[i]'hlt2:Nat):Int)):=hcs i _ (castsI_getD st i hlt2)
   have hcnt:=cnt_le (ballAt l2) st i
   have x2:wr.cell? ⟨bo,oo + ((st.take i).filter (ballAt l2)).length,none⟩ = some (.int .i64 ((st.getD ((st.take i).filter (ballAt l2)).length 0:Nat):Int)):=hcs _ _ (by rw [castsI_getD st _ o_m];rw [List.getD_eq_getElem?_getD,List.getElem?_eq_getElem o_m];rfl)
   have hk:=HIN.out _ (List.getElem_mem hlt2)
   have hYES:=partM_yes (b:=ballAt l2) hlt2
   have hNO:=partM_no (b:=ballAt l2) hlt2
   have htf:=take_filter (b:=ballAt l2) hlt2
   have Xr:wr.heap[b1]? = _:=(Kq.out.2 b1 (blk_lt Y1.out) GB.out.1 (by simp)).trans Y1.out
   have Xr3:wr.heap[b3]? = _:=(Kq.out.2 b3 (blk_lt Y3.out) GB.out.2.2.1 (by simp)).trans Y3.out
   have z2:wr.cell? ⟨b1,2,none⟩ = some (.slice (some ⟨sb,so,none⟩) l2.length c2):=(blk_cell Xr 2).trans rfl
   have htq:st.getD ((st.take i).filter (ballAt l2)).length 0 < l2.length:=by
    rw [List.getD_eq_getElem?_getD,List.getElem?_eq_getElem o_m];exact HIN.out _ (List.getElem_mem _)
   generalize hcn:((st.take i).filter (ballAt l2)).length = cnt at *
   generalize hki:st[i]'hlt2 = k at *
   generalize hto:st.getD cnt 0 = tq at *
   have src:wr.cell? ⟨sb,so + k,none⟩ = some (.int .u8 (l2.getD k 0)):=(Bq.out.cell (p:=⟨sb,so + k,none⟩) HSB.out).trans (HSC.out k _ (by rw [getD_at hk];exact List.getElem?_eq_getElem hk))
   have hbb:isBallC (l2.getD k 0) = ballAt l2 k:=rfl
   have hput:=putAll_put l2 (wallsL l2) (mvs (ballAt l2) (SN.take j) ++ partM (ballAt l2) st i) k tq
   have hpl:(putAll l2 (wallsL l2) (mvs (ballAt l2) (SN.take j) ++ partM (ballAt l2) st i)).length = l2.length:=by rw [putAll_length];simp [wallsL]
   have dst:wr.cell? ⟨g,tq,none⟩ = some (.int .u8 ((putAll l2 (wallsL l2) (mvs (ballAt l2) (SN.take j) ++ partM (ballAt l2) st i)).getD tq 0)):=(blk_cell Mq.out tq).trans (cells_get _ ts tq (by rw [hpl];exact htq))
   have hset:=cells_of (n:=0) (putAll l2 (wallsL l2) (mvs (ballAt l2) (SN.take j) ++ partM (ballAt l2) st i)) ts tq (by rw [hpl];exact htq) (l2.getD k 0)
   generalize l2.getD k 0 = c at *
   have hltI2:(i:Int) < (st.length:Int):=by omega
   have hkI:(k:Int) < (l2.length:Int):=by omega
   have hcI:(cnt:Int) < (st.length:Int):=by omega
   have htI:(tq:Int) < (l2.length:Int):=by omega
   subst hA0
   have hw1:IntKind.i64.wrap ((i:Int) + 1) = ((i + 1:Nat):Int):=by rw [IntKind.wrap_i64];have:=HSTL.out;omega
   have hw2:IntKind.i64.wrap ((cnt:Int) + 1) = ((cnt + 1:Nat):Int):=by rw [IntKind.wrap_i64];have:=HSTL.out;omega
   have HII:=am (And.intro hi hlt2)
   have HTF:=am htf
   have HYES:=am hYES
   have HNO:=am hNO
   have HBB:=am hbb
   have HBO:=am hbo
   have HCN:=am hcn
   have HPUT:=am hput
   have HSET:=am hset
   have DST:=am dst
   have XR3:=am Xr3
   have XR1:=am Xr
   have ZS:=am (And.intro x2 src)
   clear hi hlt2 htf hYES hNO hcs hCq hcnt hk hcn hki hto Xr Xr3 hbo hput hset dst hpl htq
   cases hbt:ballAt l2 k with
   | true =>
    rw [hbt] at hbb
    go_wp2_with (first
     | (go_at_call 116;refine (hball c _).mono ?_;rw [hbb];rintro e w9 ⟨rfl,hh,hb9⟩;have HH:=am hh;have B9:=am (below_step Bq.out hb9);clear hh hb9 x1 x2 z2 src))
    have cellH:∀ p:Addr,w9.cell? p = wr.cell? p:=fun p=>World.cell?_of_block (congrArg (fun h=>h[p.block]?) HH.out)
    have y2:w9.cell? ⟨bo,oo + cnt,none⟩ = some (.int .i64 ((tq:Nat):Int)):=(cellH _).trans ZS.out.1
    have src:w9.cell? ⟨sb,so + k,none⟩ = some (.int .u8 c):=(cellH _).trans ZS.out.2
    have z2:w9.cell? ⟨b1,2,none⟩ = some (.slice (some ⟨sb,so,none⟩) l2.length c2):=(cellH _).trans ((blk_cell XR1.out 2).trans rfl)
    have z3:w9.cell? ⟨b3,2,none⟩ = some (.slice (some ⟨g,0,none⟩) l2.length co):=(cellH _).trans ((blk_cell XR3.out 2).trans rfl)
    have dst:w9.cell? ⟨g,tq,none⟩ = some _:=(cellH _).trans DST.out
    have ROW9:w9.heap[g]? = _:=(congrArg (fun h=>h[g]?) HH.out).trans Mq.out
    have hf:=blk_frozen ROW9 tq
    have HROW9:=am ROW9
    have HK9:=am (show KeepBut w6 w9 g none from ⟨by rw [HH.out];exact Kq.out.1,fun q h1 h2 h3=>(congrArg (fun h=>h[q]?) HH.out).trans (Kq.out.2 q h1 h2 h3)⟩)
    clear cellH ROW9
    go_wp2
    go_still_tail 12,k_r
    change wpList _ _ _ _ _ w9.drew
    have dst':w9.drew.cell? ⟨g,tq,none⟩ = some _:=dst
    have hf':w9.drew.frozen? ⟨g,tq,none⟩ = false:=hf
    have DROW:Aside0 (w9.drew.heap[g]? = _):=HROW9
    have DK:Aside0 (KeepBut w6 w9.drew g none):=⟨⟨HK9.out.1,fun q h1 h2 h3=>HK9.out.2 q h1 h2 h3⟩⟩
    have DB:Aside0 (Below w.heap.size w w9.drew):=⟨below_drew1 B9.out⟩
    clear dst hf HROW9 HK9 B9 y2 z2 z3 src HH
    generalize w9.drew = w2 at dst' hf' DROW DK DB ⊢
    go_wp2
    go_roundw
    case rel=>exact ⟨i + 1,by have:=HII.out;omega,by first | rfl | simp,by rw [HTF.out,if_pos hbt,List.length_append,HCN.out];first | rfl | simp,⟨by rw [HYES.out hbt,← List.append_assoc,HPUT.out,← HSET.out];exact blk_put DROW.out tq _ rfl⟩,⟨KeepBut.set_ DK.out tq _⟩,⟨DB.out.setCell (p:=⟨g,tq,none⟩) GB.out.2.2.2.1 _⟩⟩
    case measure=>have:=HII.out;simp [intOf];omega
   | false =>
    rw [hbt] at hbb
    go_wp2_with (first
     | (go_at_call 116;refine (hball c _).mono ?_;rw [hbb];rintro e w9 ⟨rfl,hh,hb9⟩;have HH:=am hh;have B9:=am (below_step Bq.out hb9);clear hh hb9 x1 x2 z2 src))
    go_roundw
    case rel=>exact ⟨i + 1,by have:=HII.out;omega,by first | rfl | simp,by rw [HTF.out,if_neg (by rw [hbt];exact Bool.false_ne_true),HCN.out],⟨by rw [HNO.out hbt];exact (congrArg (fun h=>h[g]?) HH.out).trans Mq.out⟩,⟨by rw [HH.out];exact Kq.out.1,fun q h1 h2 h3=>(congrArg (fun h=>h[q]?) HH.out).trans (Kq.out.2 q h1 h2 h3)⟩,B9⟩
    case measure=>have:=HII.out;simp [intOf];omega
end Go.Proofs.YtldhkbiomingbaaGreatDoor

namespace Go.Proofs.YtldhkbiomingbaaGreatDoor.F
open Go.Proofs.YtldhkbiomingbaaGreatDoor
open Go.RowKit Go.YW.PrintWords Go.YW.PrintLast Go.YW.PrintMore
attribute [local go_sem] max2_int min2_int max_two min_two max_three min_three max_four min_four
def spec_tyCell.f (a0_0:Int) (a0_1:Int) (l0_2:List Int) (a1:Int) (a2:Int):Option (Bool):=(spec_l1In.f a1 0 (wrap64 (a0_0 - 1))).bind fun t102=>(if t102 = true then ((spec_l1In.f a2 0 (wrap64 (a0_1 - 1))).bind fun t103=>(some t103)) else (some false))
theorem spec_tyCell.calls (a0_0:Int) (a0_1:Int) (A0_2:Option Addr) (c0_2:Nat) (l0_2:List Int) (a1:Int) (a2:Int) (r:Bool) (w:World) (hr0_2:Kd.C (Kd.int .u8) w A0_2 l0_2.length l0_2) (hc0_2:l0_2.length ≤ c0_2) (h:spec_tyCell.f a0_0 a0_1 l0_2 a1 a2 = some r) :
  Calls Tryz.prog 192 #[.agg #[.int .i64 a0_0,.int .i64 a0_1,.slice A0_2 l0_2.length c0_2],.int .i64 a1,.int .i64 a2] w fun e w'=>e = .returned (.bool r) ∧ Below w.heap.size w w':=by
 have hu75:=Tryz.underlying75
 have HR0_2:=am hr0_2
 have HC0_2:=am hc0_2
 clear hr0_2 hc0_2
 have HB:=am (Below.refl w.heap.size w)
 have H:((spec_l1In.f a1 0 (wrap64 (a0_0 - 1))).bind fun t102=>(if t102 = true then ((spec_l1In.f a2 0 (wrap64 (a0_1 - 1))).bind fun t103=>(some t103)) else (some false))) = some r:=h
 clear h
 obtain ⟨t102,A4,H⟩:=bn H
 by_cases c5:t102 = true
 rotate_left
 ·replace c5:=Bool.eq_false_iff.mpr c5
  subst c5
  rw [if_neg Bool.false_ne_true] at H
  obtain rfl:=Option.some.inj H
  go_enter Tryz.func192,Tryz.ntmps192
  go_wp2_with (first | (refine bx 3 #[.int .i64 a0_0,.int .i64 a0_1,.slice A0_2 l0_2.length c0_2] 75 ?_;intro gb101 hg w9 hbox hb;have BK101:=am (hbox);have GW101:=am ((by rw [hg];exact (below_size aq2):w.heap.size ≤ gb101));have GE101:=GW101;replace HB:=am (below_step aq2 hb);clear hb hbox hg;obtain ⟨hcz10_0,hcz10_1,hcz10_2,hfz10_0,hfz10_1,hfz10_2⟩:=blk3_ BK101.out) | ((with_reducible refine gate_callee (f:=68) rfl ?_);refine goesL_ (some 11) rfl rfl Tryz.func68 k_r rfl #[.int .i64 a1,.int .i64 0,.int .i64 (wrap64 (a0_0 - 1))] rfl aq6 ?_;(with_reducible refine (spec_l1In.calls a1 0 (wrap64 (a0_0 - 1)) false _ A4.out).mono ?_);rintro e w' ⟨rfl,⟨nd,rfl⟩⟩;refine ⟨_,rfl,?_⟩))
  go_ret
  exact ⟨aq8,aq0⟩
 subst c5
 rw [if_pos rfl] at H
 obtain ⟨t103,A6,H⟩:=bn H
 obtain rfl:=Option.some.inj H
 go_enter Tryz.func192,Tryz.ntmps192
 go_wp2_with (first | (refine bx 3 #[.int .i64 a0_0,.int .i64 a0_1,.slice A0_2 l0_2.length c0_2] 75 ?_;intro gb101 hg w7 hbox hb;have BK101:=am (hbox);have GW101:=am ((by rw [hg];exact (below_size aq2):w.heap.size ≤ gb101));have GE101:=GW101;replace HB:=am (below_step aq2 hb);clear hb hbox hg;obtain ⟨hcz8_0,hcz8_1,hcz8_2,hfz8_0,hfz8_1,hfz8_2⟩:=blk3_ BK101.out) | ((with_reducible refine gate_callee (f:=68) rfl ?_);refine goesL_ (some 11) rfl rfl Tryz.func68 k_r rfl #[.int .i64 a1,.int .i64 0,.int .i64 (wrap64 (a0_0 - 1))] rfl aq6 ?_;(with_reducible refine (spec_l1In.calls a1 0 (wrap64 (a0_0 - 1)) true _ A4.out).mono ?_);rintro e w' ⟨rfl,⟨nd,rfl⟩⟩;refine ⟨_,rfl,?_⟩) | (go_at_call 68;(with_reducible refine (spec_l1In.calls a2 0 (wrap64 (a0_1 - 1)) t103 _ A6.out).mono ?_);rintro e w' ⟨rfl,⟨nd,rfl⟩⟩))
 go_ret
 exact ⟨aq8,aq0⟩
def spec_tiAhead.f (a0_0:Int) (a0_1:Int) (l0_2:List Int) (a1:Int) (a2:Int):Option (Int):=if a0_0 = 0 then (none) else (if a2 = 0 then ((spec_tyCell.f a0_0 a0_1 l0_2 (Int.tmod a1 a0_0) (wrap64 ((wrap64 (Int.tdiv a1 a0_0)) - 1))).bind fun t102=>(if t102 = true then (if 0 ≤ (wrap64 ((wrap64 ((wrap64 ((wrap64 (Int.tdiv a1 a0_0)) - 1)) * a0_0)) + (Int.tmod a1 a0_0))) then (if (wrap64 ((wrap64 ((wrap64 ((wrap64 (Int.tdiv a1 a0_0)) - 1)) * a0_0)) + (Int.tmod a1 a0_0))) < (l0_2.length:Int) then (if (rd l0_2 (wrap64 ((wrap64 ((wrap64 ((wrap64 (Int.tdiv a1 a0_0)) - 1)) * a0_0)) + (Int.tmod a1 a0_0)))) = 35 then (some (-1)) else (some (wrap64 ((wrap64 ((wrap64 ((wrap64 (Int.tdiv a1 a0_0)) - 1)) * a0_0)) + (Int.tmod a1 a0_0))))) else (none)) else (none)) else (some (-1)))) else (if a2 = 1 then ((spec_tyCell.f a0_0 a0_1 l0_2 (wrap64 ((Int.tmod a1 a0_0) + 1)) (wrap64 (Int.tdiv a1 a0_0))).bind fun t104=>(if t104 = true then (if 0 ≤ (wrap64 ((wrap64 ((wrap64 (Int.tdiv a1 a0_0)) * a0_0)) + (wrap64 ((Int.tmod a1 a0_0) + 1)))) then (if (wrap64 ((wrap64 ((wrap64 (Int.tdiv a1 a0_0)) * a0_0)) + (wrap64 ((Int.tmod a1 a0_0) + 1)))) < (l0_2.length:Int) then (if (rd l0_2 (wrap64 ((wrap64 ((wrap64 (Int.tdiv a1 a0_0)) * a0_0)) + (wrap64 ((Int.tmod a1 a0_0) + 1))))) = 35 then (some (-1)) else (some (wrap64 ((wrap64 ((wrap64 (Int.tdiv a1 a0_0)) * a0_0)) + (wrap64 ((Int.tmod a1 a0_0) + 1)))))) else (none)) else (none)) else (some (-1)))) else (if a2 = 2 then ((spec_tyCell.f a0_0 a0_1 l0_2 (Int.tmod a1 a0_0) (wrap64 ((wrap64 (Int.tdiv a1 a0_0)) + 1))).bind fun t106=>(if t106 = true then (if 0 ≤ (wrap64 ((wrap64 ((wrap64 ((wrap64 (Int.tdiv a1 a0_0)) + 1)) * a0_0)) + (Int.tmod a1 a0_0))) then (if (wrap64 ((wrap64 ((wrap64 ((wrap64 (Int.tdiv a1 a0_0)) + 1)) * a0_0)) + (Int.tmod a1 a0_0))) < (l0_2.length:Int) then (if (rd l0_2 (wrap64 ((wrap64 ((wrap64 ((wrap64 (Int.tdiv a1 a0_0)) + 1)) * a0_0)) + (Int.tmod a1 a0_0)))) = 35 then (some (-1)) else (some (wrap64 ((wrap64 ((wrap64 ((wrap64 (Int.tdiv a1 a0_0)) + 1)) * a0_0)) + (Int.tmod a1 a0_0))))) else (none)) else (none)) else (some (-1)))) else ((spec_tyCell.f a0_0 a0_1 l0_2 (wrap64 ((Int.tmod a1 a0_0) - 1)) (wrap64 (Int.tdiv a1 a0_0))).bind fun t108=>(if t108 = true then (if 0 ≤ (wrap64 ((wrap64 ((wrap64 (Int.tdiv a1 a0_0)) * a0_0)) + (wrap64 ((Int.tmod a1 a0_0) - 1)))) then (if (wrap64 ((wrap64 ((wrap64 (Int.tdiv a1 a0_0)) * a0_0)) + (wrap64 ((Int.tmod a1 a0_0) - 1)))) < (l0_2.length:Int) then (if (rd l0_2 (wrap64 ((wrap64 ((wrap64 (Int.tdiv a1 a0_0)) * a0_0)) + (wrap64 ((Int.tmod a1 a0_0) - 1))))) = 35 then (some (-1)) else (some (wrap64 ((wrap64 ((wrap64 (Int.tdiv a1 a0_0)) * a0_0)) + (wrap64 ((Int.tmod a1 a0_0) - 1)))))) else (none)) else (none)) else (some (-1)))))))
theorem spec_tiAhead.calls (a0_0:Int) (a0_1:Int) (A0_2:Option Addr) (c0_2:Nat) (l0_2:List Int) (a1:Int) (a2:Int) (r:Int) (w:World) (hr0_2:Kd.C (Kd.int .u8) w A0_2 l0_2.length l0_2) (hc0_2:l0_2.length ≤ c0_2) (h:spec_tiAhead.f a0_0 a0_1 l0_2 a1 a2 = some r) :
  Calls Tryz.prog 160 #[.agg #[.int .i64 a0_0,.int .i64 a0_1,.slice A0_2 l0_2.length c0_2],.int .i64 a1,.int .i64 a2] w fun e w'=>e = .returned (.int .i64 r) ∧ Below w.heap.size w w':=by
 have hu75:=Tryz.underlying75
 have HR0_2:=am hr0_2
 have HC0_2:=am hc0_2
 clear hr0_2 hc0_2
 have HB:=am (Below.refl w.heap.size w)
 have H:(if a0_0 = 0 then (none) else (if a2 = 0 then ((spec_tyCell.f a0_0 a0_1 l0_2 (Int.tmod a1 a0_0) (wrap64 ((wrap64 (Int.tdiv a1 a0_0)) - 1))).bind fun t102=>(if t102 = true then (if 0 ≤ (wrap64 ((wrap64 ((wrap64 ((wrap64 (Int.tdiv a1 a0_0)) - 1)) * a0_0)) + (Int.tmod a1 a0_0))) then (if (wrap64 ((wrap64 ((wrap64 ((wrap64 (Int.tdiv a1 a0_0)) - 1)) * a0_0)) + (Int.tmod a1 a0_0))) < (l0_2.length:Int) then (if (rd l0_2 (wrap64 ((wrap64 ((wrap64 ((wrap64 (Int.tdiv a1 a0_0)) - 1)) * a0_0)) + (Int.tmod a1 a0_0)))) = 35 then (some (-1)) else (some (wrap64 ((wrap64 ((wrap64 ((wrap64 (Int.tdiv a1 a0_0)) - 1)) * a0_0)) + (Int.tmod a1 a0_0))))) else (none)) else (none)) else (some (-1)))) else (if a2 = 1 then ((spec_tyCell.f a0_0 a0_1 l0_2 (wrap64 ((Int.tmod a1 a0_0) + 1)) (wrap64 (Int.tdiv a1 a0_0))).bind fun t104=>(if t104 = true then (if 0 ≤ (wrap64 ((wrap64 ((wrap64 (Int.tdiv a1 a0_0)) * a0_0)) + (wrap64 ((Int.tmod a1 a0_0) + 1)))) then (if (wrap64 ((wrap64 ((wrap64 (Int.tdiv a1 a0_0)) * a0_0)) + (wrap64 ((Int.tmod a1 a0_0) + 1)))) < (l0_2.length:Int) then (if (rd l0_2 (wrap64 ((wrap64 ((wrap64 (Int.tdiv a1 a0_0)) * a0_0)) + (wrap64 ((Int.tmod a1 a0_0) + 1))))) = 35 then (some (-1)) else (some (wrap64 ((wrap64 ((wrap64 (Int.tdiv a1 a0_0)) * a0_0)) + (wrap64 ((Int.tmod a1 a0_0) + 1)))))) else (none)) else (none)) else (some (-1)))) else (if a2 = 2 then ((spec_tyCell.f a0_0 a0_1 l0_2 (Int.tmod a1 a0_0) (wrap64 ((wrap64 (Int.tdiv a1 a0_0)) + 1))).bind fun t106=>(if t106 = true then (if 0 ≤ (wrap64 ((wrap64 ((wrap64 ((wrap64 (Int.tdiv a1 a0_0)) + 1)) * a0_0)) + (Int.tmod a1 a0_0))) then (if (wrap64 ((wrap64 ((wrap64 ((wrap64 (Int.tdiv a1 a0_0)) + 1)) * a0_0)) + (Int.tmod a1 a0_0))) < (l0_2.length:Int) then (if (rd l0_2 (wrap64 ((wrap64 ((wrap64 ((wrap64 (Int.tdiv a1 a0_0)) + 1)) * a0_0)) + (Int.tmod a1 a0_0)))) = 35 then (some (-1)) else (some (wrap64 ((wrap64 ((wrap64 ((wrap64 (Int.tdiv a1 a0_0)) + 1)) * a0_0)) + (Int.tmod a1 a0_0))))) else (none)) else (none)) else (some (-1)))) else ((spec_tyCell.f a0_0 a0_1 l0_2 (wrap64 ((Int.tmod a1 a0_0) - 1)) (wrap64 (Int.tdiv a1 a0_0))).bind fun t108=>(if t108 = true then (if 0 ≤ (wrap64 ((wrap64 ((wrap64 (Int.tdiv a1 a0_0)) * a0_0)) + (wrap64 ((Int.tmod a1 a0_0) - 1)))) then (if (wrap64 ((wrap64 ((wrap64 (Int.tdiv a1 a0_0)) * a0_0)) + (wrap64 ((Int.tmod a1 a0_0) - 1)))) < (l0_2.length:Int) then (if (rd l0_2 (wrap64 ((wrap64 ((wrap64 (Int.tdiv a1 a0_0)) * a0_0)) + (wrap64 ((Int.tmod a1 a0_0) - 1))))) = 35 then (some (-1)) else (some (wrap64 ((wrap64 ((wrap64 (Int.tdiv a1 a0_0)) * a0_0)) + (wrap64 ((Int.tmod a1 a0_0) - 1)))))) else (none)) else (none)) else (some (-1)))))))) = some r:=h
 clear h
 by_cases c4:a0_0 = 0
 ·rw [if_pos c4] at H
  exact absurd H (by simp)
 rw [if_neg c4] at H
 have c4b0:=beq_eq_false_iff_ne.mpr c4
 have c4b1:=bne_iff_ne.mpr c4
 by_cases c5:a2 = 0
 ·rw [if_pos c5] at H
  have c5b0:=beq_iff_eq.mpr c5
  have c5b1:=bne_eq_false_iff_eq.mpr c5
  clear c5
  obtain ⟨t102,A6,H⟩:=bn H
  by_cases c7:t102 = true
  rotate_left
  ·replace c7:=Bool.eq_false_iff.mpr c7
   subst c7
   rw [if_neg Bool.false_ne_true] at H
   obtain rfl:=Option.some.inj H
   go_enter Tryz.func160,Tryz.ntmps160
   go_wp2_with (first | (refine bx 3 #[.int .i64 a0_0,.int .i64 a0_1,.slice A0_2 l0_2.length c0_2] 75 ?_;intro gb101 hg w20 hbox hb;have BK101:=am (hbox);have GW101:=am ((by rw [hg];exact (below_size aq2):w.heap.size ≤ gb101));have GE101:=GW101;replace HB:=am (below_step aq2 hb);clear hb hbox hg;obtain ⟨hcz21_0,hcz21_1,hcz21_2,hfz21_0,hfz21_1,hfz21_2⟩:=blk3_ BK101.out))
   repeat (go_quiet (fail);try go_wp2_with (first | (go_at_call 192;(with_reducible refine (spec_tyCell.calls a0_0 a0_1 _ _ l0_2 (Int.tmod a1 a0_0) (wrap64 ((wrap64 (Int.tdiv a1 a0_0)) - 1)) false _ ?side1 ?side2 A6.out).mono ?_);(case side1=>exact aq11);(case side2=>exact HC0_2.out);rintro e w22 ⟨rfl,hb⟩;replace BK101:=am (bb BK101 hb);replace HB:=am (below_step aq0 hb);(try clear hb))))
   go_ret
   exact ⟨aq8,aq0⟩
  subst c7
  rw [if_pos rfl] at H
  obtain ⟨ji8,hji8⟩:∃ j_:Int,(wrap64 ((wrap64 ((wrap64 ((wrap64 (Int.tdiv a1 a0_0)) - 1)) * a0_0)) + (Int.tmod a1 a0_0))) = j_:=⟨_,rfl⟩
  first | rw [hji8] at H | simp only [hji8] at H
  (try rw [hji8] at A6)
  have hji8w:(IntKind.i64.wrap ((wrap64 ((wrap64 ((wrap64 (Int.tdiv a1 a0_0)) - 1)) * a0_0)) + (Int.tmod a1 a0_0))) = ji8:=(i64_w _).trans hji8
  replace H:=gd H
  obtain ⟨c9,H⟩:=H
  have c9b0:=decide_eq_true c9
  clear c9
  replace H:=gd H
  obtain ⟨c10,H⟩:=H
  have c10b0:=decide_eq_true c10
  clear c10
  by_cases c11:(rd l0_2 (ji8)) = 35
  rotate_left
  ·rw [if_neg c11] at H
   have c11b0:=beq_eq_false_iff_ne.mpr c11
   have c11b1:=bne_iff_ne.mpr c11
   obtain rfl:=Option.some.inj H
   go_enter Tryz.func160,Tryz.ntmps160
   go_wp2_with (first | (refine bx 3 #[.int .i64 a0_0,.int .i64 a0_1,.slice A0_2 l0_2.length c0_2] 75 ?_;intro gb101 hg w16 hbox hb;have BK101:=am (hbox);have GW101:=am ((by rw [hg];exact (below_size aq2):w.heap.size ≤ gb101));have GE101:=GW101;replace HB:=am (below_step aq2 hb);clear hb hbox hg;obtain ⟨hcz17_0,hcz17_1,hcz17_2,hfz17_0,hfz17_1,hfz17_2⟩:=blk3_ BK101.out))
   repeat (go_quiet (fail);try go_wp2_with (first | (go_at_call 192;(with_reducible refine (spec_tyCell.calls a0_0 a0_1 _ _ l0_2 (Int.tmod a1 a0_0) (wrap64 ((wrap64 (Int.tdiv a1 a0_0)) - 1)) true _ ?side1 ?side2 A6.out).mono ?_);(case side1=>exact aq11);(case side2=>exact HC0_2.out);rintro e w18 ⟨rfl,hb⟩;replace BK101:=am (bb BK101 hb);replace HB:=am (below_step aq0 hb);(try clear hb);obtain ⟨hcz19_0,hcz19_1,hcz19_2,hfz19_0,hfz19_1,hfz19_2⟩:=blk3_ BK101.out;have p103:0 ≤ ((ji8):Int):=of_decide_eq_true aq4;have q103:(ji8) < (l0_2.length:Int):=of_decide_eq_true aq4;obtain ⟨ad103,e103,hx103_0⟩:=Kd.at_int HR0_2.out (ji8) p103 q103;cases e103;replace hx103_0:=(HB.out.cell (World.block_lt_of_cell? w _ hx103_0)).trans hx103_0;replace p103:=eq_true p103;replace q103:=eq_true q103)))
   go_ret
   exact ⟨aq94,aq0⟩
  rw [if_pos c11] at H
  have c11b0:=beq_iff_eq.mpr c11
  have c11b1:=bne_eq_false_iff_eq.mpr c11
  clear c11
  obtain rfl:=Option.some.inj H
  go_enter Tryz.func160,Tryz.ntmps160
  go_wp2_with (first | (refine bx 3 #[.int .i64 a0_0,.int .i64 a0_1,.slice A0_2 l0_2.length c0_2] 75 ?_;intro gb101 hg w12 hbox hb;have BK101:=am (hbox);have GW101:=am ((by rw [hg];exact (below_size aq2):w.heap.size ≤ gb101));have GE101:=GW101;replace HB:=am (below_step aq2 hb);clear hb hbox hg;obtain ⟨hcz13_0,hcz13_1,hcz13_2,hfz13_0,hfz13_1,hfz13_2⟩:=blk3_ BK101.out))
  repeat (go_quiet (fail);try go_wp2_with (first | (go_at_call 192;(with_reducible refine (spec_tyCell.calls a0_0 a0_1 _ _ l0_2 (Int.tmod a1 a0_0) (wrap64 ((wrap64 (Int.tdiv a1 a0_0)) - 1)) true _ ?side1 ?side2 A6.out).mono ?_);(case side1=>exact aq11);(case side2=>exact HC0_2.out);rintro e w14 ⟨rfl,hb⟩;replace BK101:=am (bb BK101 hb);replace HB:=am (below_step aq0 hb);(try clear hb);obtain ⟨hcz15_0,hcz15_1,hcz15_2,hfz15_0,hfz15_1,hfz15_2⟩:=blk3_ BK101.out;have p103:0 ≤ ((ji8):Int):=of_decide_eq_true aq4;have q103:(ji8) < (l0_2.length:Int):=of_decide_eq_true aq4;obtain ⟨ad103,e103,hx103_0⟩:=Kd.at_int HR0_2.out (ji8) p103 q103;cases e103;replace hx103_0:=(HB.out.cell (World.block_lt_of_cell? w _ hx103_0)).trans hx103_0;replace p103:=eq_true p103;replace q103:=eq_true q103)))
  go_ret
  exact ⟨aq94,aq0⟩
 rw [if_neg c5] at H
 have c5b0:=beq_eq_false_iff_ne.mpr c5
 have c5b1:=bne_iff_ne.mpr c5
 by_cases c23:a2 = 1
 ·rw [if_pos c23] at H
  have c23b0:=beq_iff_eq.mpr c23
  have c23b1:=bne_eq_false_iff_eq.mpr c23
  clear c23
  obtain ⟨t104,A24,H⟩:=bn H
  by_cases c25:t104 = true
  rotate_left
  ·replace c25:=Bool.eq_false_iff.mpr c25
   subst c25
   rw [if_neg Bool.false_ne_true] at H
   obtain rfl:=Option.some.inj H
   go_enter Tryz.func160,Tryz.ntmps160
   go_wp2_with (first | (refine bx 3 #[.int .i64 a0_0,.int .i64 a0_1,.slice A0_2 l0_2.length c0_2] 75 ?_;intro gb101 hg w38 hbox hb;have BK101:=am (hbox);have GW101:=am ((by rw [hg];exact (below_size aq2):w.heap.size ≤ gb101));have GE101:=GW101;replace HB:=am (below_step aq2 hb);clear hb hbox hg;obtain ⟨hcz39_0,hcz39_1,hcz39_2,hfz39_0,hfz39_1,hfz39_2⟩:=blk3_ BK101.out))
   repeat (go_quiet (fail);try go_wp2_with (first | (go_at_call 192;(with_reducible refine (spec_tyCell.calls a0_0 a0_1 _ _ l0_2 (wrap64 ((Int.tmod a1 a0_0) + 1)) (wrap64 (Int.tdiv a1 a0_0)) false _ ?side1 ?side2 A24.out).mono ?_);(case side1=>exact aq11);(case side2=>exact HC0_2.out);rintro e w40 ⟨rfl,hb⟩;replace BK101:=am (bb BK101 hb);replace HB:=am (below_step aq0 hb);(try clear hb))))
   go_ret
   exact ⟨aq8,aq0⟩
  subst c25
  rw [if_pos rfl] at H
  obtain ⟨ji26,hji26⟩:∃ j_:Int,(wrap64 ((wrap64 ((wrap64 (Int.tdiv a1 a0_0)) * a0_0)) + (wrap64 ((Int.tmod a1 a0_0) + 1)))) = j_:=⟨_,rfl⟩
  first | rw [hji26] at H | simp only [hji26] at H
  (try rw [hji26] at A24)
  have hji26w:(IntKind.i64.wrap ((wrap64 ((wrap64 (Int.tdiv a1 a0_0)) * a0_0)) + (wrap64 ((Int.tmod a1 a0_0) + 1)))) = ji26:=(i64_w _).trans hji26
  replace H:=gd H
  obtain ⟨c27,H⟩:=H
  have c27b0:=decide_eq_true c27
  clear c27
  replace H:=gd H
  obtain ⟨c28,H⟩:=H
  have c28b0:=decide_eq_true c28
  clear c28
  by_cases c29:(rd l0_2 (ji26)) = 35
  rotate_left
  ·rw [if_neg c29] at H
   have c29b0:=beq_eq_false_iff_ne.mpr c29
   have c29b1:=bne_iff_ne.mpr c29
   obtain rfl:=Option.some.inj H
   go_enter Tryz.func160,Tryz.ntmps160
   go_wp2_with (first | (refine bx 3 #[.int .i64 a0_0,.int .i64 a0_1,.slice A0_2 l0_2.length c0_2] 75 ?_;intro gb101 hg w34 hbox hb;have BK101:=am (hbox);have GW101:=am ((by rw [hg];exact (below_size aq2):w.heap.size ≤ gb101));have GE101:=GW101;replace HB:=am (below_step aq2 hb);clear hb hbox hg;obtain ⟨hcz35_0,hcz35_1,hcz35_2,hfz35_0,hfz35_1,hfz35_2⟩:=blk3_ BK101.out))
   repeat (go_quiet (fail);try go_wp2_with (first | (go_at_call 192;(with_reducible refine (spec_tyCell.calls a0_0 a0_1 _ _ l0_2 (wrap64 ((Int.tmod a1 a0_0) + 1)) (wrap64 (Int.tdiv a1 a0_0)) true _ ?side1 ?side2 A24.out).mono ?_);(case side1=>exact aq11);(case side2=>exact HC0_2.out);rintro e w36 ⟨rfl,hb⟩;replace BK101:=am (bb BK101 hb);replace HB:=am (below_step aq0 hb);(try clear hb);obtain ⟨hcz37_0,hcz37_1,hcz37_2,hfz37_0,hfz37_1,hfz37_2⟩:=blk3_ BK101.out;have p105:0 ≤ ((ji26):Int):=of_decide_eq_true aq4;have q105:(ji26) < (l0_2.length:Int):=of_decide_eq_true aq4;obtain ⟨ad105,e105,hx105_0⟩:=Kd.at_int HR0_2.out (ji26) p105 q105;cases e105;replace hx105_0:=(HB.out.cell (World.block_lt_of_cell? w _ hx105_0)).trans hx105_0;replace p105:=eq_true p105;replace q105:=eq_true q105)))
   go_ret
   exact ⟨aq93,aq0⟩
  rw [if_pos c29] at H
  have c29b0:=beq_iff_eq.mpr c29
  have c29b1:=bne_eq_false_iff_eq.mpr c29
  clear c29
  obtain rfl:=Option.some.inj H
  go_enter Tryz.func160,Tryz.ntmps160
  go_wp2_with (first | (refine bx 3 #[.int .i64 a0_0,.int .i64 a0_1,.slice A0_2 l0_2.length c0_2] 75 ?_;intro gb101 hg w30 hbox hb;have BK101:=am (hbox);have GW101:=am ((by rw [hg];exact (below_size aq2):w.heap.size ≤ gb101));have GE101:=GW101;replace HB:=am (below_step aq2 hb);clear hb hbox hg;obtain ⟨hcz31_0,hcz31_1,hcz31_2,hfz31_0,hfz31_1,hfz31_2⟩:=blk3_ BK101.out))
  repeat (go_quiet (fail);try go_wp2_with (first | (go_at_call 192;(with_reducible refine (spec_tyCell.calls a0_0 a0_1 _ _ l0_2 (wrap64 ((Int.tmod a1 a0_0) + 1)) (wrap64 (Int.tdiv a1 a0_0)) true _ ?side1 ?side2 A24.out).mono ?_);(case side1=>exact aq11);(case side2=>exact HC0_2.out);rintro e w32 ⟨rfl,hb⟩;replace BK101:=am (bb BK101 hb);replace HB:=am (below_step aq0 hb);(try clear hb);obtain ⟨hcz33_0,hcz33_1,hcz33_2,hfz33_0,hfz33_1,hfz33_2⟩:=blk3_ BK101.out;have p105:0 ≤ ((ji26):Int):=of_decide_eq_true aq4;have q105:(ji26) < (l0_2.length:Int):=of_decide_eq_true aq4;obtain ⟨ad105,e105,hx105_0⟩:=Kd.at_int HR0_2.out (ji26) p105 q105;cases e105;replace hx105_0:=(HB.out.cell (World.block_lt_of_cell? w _ hx105_0)).trans hx105_0;replace p105:=eq_true p105;replace q105:=eq_true q105)))
  go_ret
  exact ⟨aq93,aq0⟩
 rw [if_neg c23] at H
 have c23b0:=beq_eq_false_iff_ne.mpr c23
 have c23b1:=bne_iff_ne.mpr c23
 by_cases c41:a2 = 2
 rotate_left
 ·rw [if_neg c41] at H
  have c41b0:=beq_eq_false_iff_ne.mpr c41
  have c41b1:=bne_iff_ne.mpr c41
  obtain ⟨t108,A59,H⟩:=bn H
  by_cases c60:t108 = true
  rotate_left
  ·replace c60:=Bool.eq_false_iff.mpr c60
   subst c60
   rw [if_neg Bool.false_ne_true] at H
   obtain rfl:=Option.some.inj H
   go_enter Tryz.func160,Tryz.ntmps160
   go_wp2_with (first | (refine bx 3 #[.int .i64 a0_0,.int .i64 a0_1,.slice A0_2 l0_2.length c0_2] 75 ?_;intro gb101 hg w73 hbox hb;have BK101:=am (hbox);have GW101:=am ((by rw [hg];exact (below_size aq2):w.heap.size ≤ gb101));have GE101:=GW101;replace HB:=am (below_step aq2 hb);clear hb hbox hg;obtain ⟨hcz74_0,hcz74_1,hcz74_2,hfz74_0,hfz74_1,hfz74_2⟩:=blk3_ BK101.out))
   repeat (go_quiet (fail);try go_wp2_with (first | (go_at_call 192;(with_reducible refine (spec_tyCell.calls a0_0 a0_1 _ _ l0_2 (wrap64 ((Int.tmod a1 a0_0) - 1)) (wrap64 (Int.tdiv a1 a0_0)) false _ ?side1 ?side2 A59.out).mono ?_);(case side1=>exact aq11);(case side2=>exact HC0_2.out);rintro e w75 ⟨rfl,hb⟩;replace BK101:=am (bb BK101 hb);replace HB:=am (below_step aq0 hb);(try clear hb))))
   go_ret
   exact ⟨aq8,aq0⟩
  subst c60
  rw [if_pos rfl] at H
  obtain ⟨ji61,hji61⟩:∃ j_:Int,(wrap64 ((wrap64 ((wrap64 (Int.tdiv a1 a0_0)) * a0_0)) + (wrap64 ((Int.tmod a1 a0_0) - 1)))) = j_:=⟨_,rfl⟩
  first | rw [hji61] at H | simp only [hji61] at H
  (try rw [hji61] at A59)
  have hji61w:(IntKind.i64.wrap ((wrap64 ((wrap64 (Int.tdiv a1 a0_0)) * a0_0)) + (wrap64 ((Int.tmod a1 a0_0) - 1)))) = ji61:=(i64_w _).trans hji61
  replace H:=gd H
  obtain ⟨c62,H⟩:=H
  have c62b0:=decide_eq_true c62
  clear c62
  replace H:=gd H
  obtain ⟨c63,H⟩:=H
  have c63b0:=decide_eq_true c63
  clear c63
  by_cases c64:(rd l0_2 (ji61)) = 35
  rotate_left
  ·rw [if_neg c64] at H
   have c64b0:=beq_eq_false_iff_ne.mpr c64
   have c64b1:=bne_iff_ne.mpr c64
   obtain rfl:=Option.some.inj H
   go_enter Tryz.func160,Tryz.ntmps160
   go_wp2_with (first | (refine bx 3 #[.int .i64 a0_0,.int .i64 a0_1,.slice A0_2 l0_2.length c0_2] 75 ?_;intro gb101 hg w69 hbox hb;have BK101:=am (hbox);have GW101:=am ((by rw [hg];exact (below_size aq2):w.heap.size ≤ gb101));have GE101:=GW101;replace HB:=am (below_step aq2 hb);clear hb hbox hg;obtain ⟨hcz70_0,hcz70_1,hcz70_2,hfz70_0,hfz70_1,hfz70_2⟩:=blk3_ BK101.out))
   repeat (go_quiet (fail);try go_wp2_with (first | (go_at_call 192;(with_reducible refine (spec_tyCell.calls a0_0 a0_1 _ _ l0_2 (wrap64 ((Int.tmod a1 a0_0) - 1)) (wrap64 (Int.tdiv a1 a0_0)) true _ ?side1 ?side2 A59.out).mono ?_);(case side1=>exact aq11);(case side2=>exact HC0_2.out);rintro e w71 ⟨rfl,hb⟩;replace BK101:=am (bb BK101 hb);replace HB:=am (below_step aq0 hb);(try clear hb);obtain ⟨hcz72_0,hcz72_1,hcz72_2,hfz72_0,hfz72_1,hfz72_2⟩:=blk3_ BK101.out;have p109:0 ≤ ((ji61):Int):=of_decide_eq_true aq4;have q109:(ji61) < (l0_2.length:Int):=of_decide_eq_true aq4;obtain ⟨ad109,e109,hx109_0⟩:=Kd.at_int HR0_2.out (ji61) p109 q109;cases e109;replace hx109_0:=(HB.out.cell (World.block_lt_of_cell? w _ hx109_0)).trans hx109_0;replace p109:=eq_true p109;replace q109:=eq_true q109)))
   go_ret
   exact ⟨aq91,aq0⟩
  rw [if_pos c64] at H
  have c64b0:=beq_iff_eq.mpr c64
  have c64b1:=bne_eq_false_iff_eq.mpr c64
  clear c64
  obtain rfl:=Option.some.inj H
  go_enter Tryz.func160,Tryz.ntmps160
  go_wp2_with (first | (refine bx 3 #[.int .i64 a0_0,.int .i64 a0_1,.slice A0_2 l0_2.length c0_2] 75 ?_;intro gb101 hg w65 hbox hb;have BK101:=am (hbox);have GW101:=am ((by rw [hg];exact (below_size aq2):w.heap.size ≤ gb101));have GE101:=GW101;replace HB:=am (below_step aq2 hb);clear hb hbox hg;obtain ⟨hcz66_0,hcz66_1,hcz66_2,hfz66_0,hfz66_1,hfz66_2⟩:=blk3_ BK101.out))
  repeat (go_quiet (fail);try go_wp2_with (first | (go_at_call 192;(with_reducible refine (spec_tyCell.calls a0_0 a0_1 _ _ l0_2 (wrap64 ((Int.tmod a1 a0_0) - 1)) (wrap64 (Int.tdiv a1 a0_0)) true _ ?side1 ?side2 A59.out).mono ?_);(case side1=>exact aq11);(case side2=>exact HC0_2.out);rintro e w67 ⟨rfl,hb⟩;replace BK101:=am (bb BK101 hb);replace HB:=am (below_step aq0 hb);(try clear hb);obtain ⟨hcz68_0,hcz68_1,hcz68_2,hfz68_0,hfz68_1,hfz68_2⟩:=blk3_ BK101.out;have p109:0 ≤ ((ji61):Int):=of_decide_eq_true aq4;have q109:(ji61) < (l0_2.length:Int):=of_decide_eq_true aq4;obtain ⟨ad109,e109,hx109_0⟩:=Kd.at_int HR0_2.out (ji61) p109 q109;cases e109;replace hx109_0:=(HB.out.cell (World.block_lt_of_cell? w _ hx109_0)).trans hx109_0;replace p109:=eq_true p109;replace q109:=eq_true q109)))
  go_ret
  exact ⟨aq91,aq0⟩
 rw [if_pos c41] at H
 have c41b0:=beq_iff_eq.mpr c41
 have c41b1:=bne_eq_false_iff_eq.mpr c41
 clear c41
 obtain ⟨t106,A42,H⟩:=bn H
 by_cases c43:t106 = true
 rotate_left
 ·replace c43:=Bool.eq_false_iff.mpr c43
  subst c43
  rw [if_neg Bool.false_ne_true] at H
  obtain rfl:=Option.some.inj H
  go_enter Tryz.func160,Tryz.ntmps160
  go_wp2_with (first | (refine bx 3 #[.int .i64 a0_0,.int .i64 a0_1,.slice A0_2 l0_2.length c0_2] 75 ?_;intro gb101 hg w56 hbox hb;have BK101:=am (hbox);have GW101:=am ((by rw [hg];exact (below_size aq2):w.heap.size ≤ gb101));have GE101:=GW101;replace HB:=am (below_step aq2 hb);clear hb hbox hg;obtain ⟨hcz57_0,hcz57_1,hcz57_2,hfz57_0,hfz57_1,hfz57_2⟩:=blk3_ BK101.out))
  repeat (go_quiet (fail);try go_wp2_with (first | (go_at_call 192;(with_reducible refine (spec_tyCell.calls a0_0 a0_1 _ _ l0_2 (Int.tmod a1 a0_0) (wrap64 ((wrap64 (Int.tdiv a1 a0_0)) + 1)) false _ ?side1 ?side2 A42.out).mono ?_);(case side1=>exact aq11);(case side2=>exact HC0_2.out);rintro e w58 ⟨rfl,hb⟩;replace BK101:=am (bb BK101 hb);replace HB:=am (below_step aq0 hb);(try clear hb))))
  go_ret
  exact ⟨aq8,aq0⟩
 subst c43
 rw [if_pos rfl] at H
 obtain ⟨ji44,hji44⟩:∃ j_:Int,(wrap64 ((wrap64 ((wrap64 ((wrap64 (Int.tdiv a1 a0_0)) + 1)) * a0_0)) + (Int.tmod a1 a0_0))) = j_:=⟨_,rfl⟩
 first | rw [hji44] at H | simp only [hji44] at H
 (try rw [hji44] at A42)
 have hji44w:(IntKind.i64.wrap ((wrap64 ((wrap64 ((wrap64 (Int.tdiv a1 a0_0)) + 1)) * a0_0)) + (Int.tmod a1 a0_0))) = ji44:=(i64_w _).trans hji44
 replace H:=gd H
 obtain ⟨c45,H⟩:=H
 have c45b0:=decide_eq_true c45
 clear c45
 replace H:=gd H
 obtain ⟨c46,H⟩:=H
 have c46b0:=decide_eq_true c46
 clear c46
 by_cases c47:(rd l0_2 (ji44)) = 35
 rotate_left
 ·rw [if_neg c47] at H
  have c47b0:=beq_eq_false_iff_ne.mpr c47
  have c47b1:=bne_iff_ne.mpr c47
  obtain rfl:=Option.some.inj H
  go_enter Tryz.func160,Tryz.ntmps160
  go_wp2_with (first | (refine bx 3 #[.int .i64 a0_0,.int .i64 a0_1,.slice A0_2 l0_2.length c0_2] 75 ?_;intro gb101 hg w52 hbox hb;have BK101:=am (hbox);have GW101:=am ((by rw [hg];exact (below_size aq2):w.heap.size ≤ gb101));have GE101:=GW101;replace HB:=am (below_step aq2 hb);clear hb hbox hg;obtain ⟨hcz53_0,hcz53_1,hcz53_2,hfz53_0,hfz53_1,hfz53_2⟩:=blk3_ BK101.out))
  repeat (go_quiet (fail);try go_wp2_with (first | (go_at_call 192;(with_reducible refine (spec_tyCell.calls a0_0 a0_1 _ _ l0_2 (Int.tmod a1 a0_0) (wrap64 ((wrap64 (Int.tdiv a1 a0_0)) + 1)) true _ ?side1 ?side2 A42.out).mono ?_);(case side1=>exact aq11);(case side2=>exact HC0_2.out);rintro e w54 ⟨rfl,hb⟩;replace BK101:=am (bb BK101 hb);replace HB:=am (below_step aq0 hb);(try clear hb);obtain ⟨hcz55_0,hcz55_1,hcz55_2,hfz55_0,hfz55_1,hfz55_2⟩:=blk3_ BK101.out;have p107:0 ≤ ((ji44):Int):=of_decide_eq_true aq4;have q107:(ji44) < (l0_2.length:Int):=of_decide_eq_true aq4;obtain ⟨ad107,e107,hx107_0⟩:=Kd.at_int HR0_2.out (ji44) p107 q107;cases e107;replace hx107_0:=(HB.out.cell (World.block_lt_of_cell? w _ hx107_0)).trans hx107_0;replace p107:=eq_true p107;replace q107:=eq_true q107)))
  go_ret
  exact ⟨aq92,aq0⟩
 rw [if_pos c47] at H
 have c47b0:=beq_iff_eq.mpr c47
 have c47b1:=bne_eq_false_iff_eq.mpr c47
 clear c47
 obtain rfl:=Option.some.inj H
 go_enter Tryz.func160,Tryz.ntmps160
 go_wp2_with (first | (refine bx 3 #[.int .i64 a0_0,.int .i64 a0_1,.slice A0_2 l0_2.length c0_2] 75 ?_;intro gb101 hg w48 hbox hb;have BK101:=am (hbox);have GW101:=am ((by rw [hg];exact (below_size aq2):w.heap.size ≤ gb101));have GE101:=GW101;replace HB:=am (below_step aq2 hb);clear hb hbox hg;obtain ⟨hcz49_0,hcz49_1,hcz49_2,hfz49_0,hfz49_1,hfz49_2⟩:=blk3_ BK101.out))
 repeat (go_quiet (fail);try go_wp2_with (first | (go_at_call 192;(with_reducible refine (spec_tyCell.calls a0_0 a0_1 _ _ l0_2 (Int.tmod a1 a0_0) (wrap64 ((wrap64 (Int.tdiv a1 a0_0)) + 1)) true _ ?side1 ?side2 A42.out).mono ?_);(case side1=>exact aq11);(case side2=>exact HC0_2.out);rintro e w50 ⟨rfl,hb⟩;replace BK101:=am (bb BK101 hb);replace HB:=am (below_step aq0 hb);(try clear hb);obtain ⟨hcz51_0,hcz51_1,hcz51_2,hfz51_0,hfz51_1,hfz51_2⟩:=blk3_ BK101.out;have p107:0 ≤ ((ji44):Int):=of_decide_eq_true aq4;have q107:(ji44) < (l0_2.length:Int):=of_decide_eq_true aq4;obtain ⟨ad107,e107,hx107_0⟩:=Kd.at_int HR0_2.out (ji44) p107 q107;cases e107;replace hx107_0:=(HB.out.cell (World.block_lt_of_cell? w _ hx107_0)).trans hx107_0;replace p107:=eq_true p107;replace q107:=eq_true q107)))
 go_ret
 exact ⟨aq92,aq0⟩
def spec_l1Least.f (a0:Int) (a1:Int):Option (Int):=if a0 < a1 then (some a0) else (some a1)
theorem spec_l1Least.calls (a0:Int) (a1:Int) (r:Int) (w:World) (h:spec_l1Least.f a0 a1 = some r) :
  Calls Tryz.prog 193 #[.int .i64 a0,.int .i64 a1] w fun e w'=>e = .returned (.int .i64 r) ∧ Drawn0 w w':=by
 have H:(if a0 < a1 then (some a0) else (some a1)) = some r:=h
 clear h
 by_cases c3:a0 < a1
 rotate_left
 ·rw [if_neg c3] at H
  have c3b0:=decide_eq_false c3
  clear c3
  obtain rfl:=Option.some.inj H
  go_enter Tryz.func193,Tryz.ntmps193
  go_wp2
  go_ret
  exact ⟨aq7,aq20⟩
 rw [if_pos c3] at H
 have c3b0:=decide_eq_true c3
 clear c3
 obtain rfl:=Option.some.inj H
 go_enter Tryz.func193,Tryz.ntmps193
 go_wp2
 go_ret
 exact ⟨aq7,aq20⟩
def spec_tiFirst.l0:Nat → Int → List Int → Int → Int → Option (Int)
 | 0,_,_,_,_=>none
 | k + 1,x3,x9,x10,x11=>if x11 < x10 then (if 0 ≤ x11 then (if x11 < (x9.length:Int) then ((spec_l1Least.f x3 (rd x9 x11)).bind fun t103=>(spec_tiFirst.l0 k t103 x9 x10 (wrap64 (x11 + 1)))) else (none)) else (none)) else (some x3)
def spec_tiFirst.f (k:Nat) (l0:List Int):Option (Int):=if 0 < (l0.length:Int) then (spec_tiFirst.l0 k (rd l0 0) l0 (l0.length:Int) 0) else (none)
theorem spec_tiFirst.mono_l:∀ k,(∀ y0 y1 y2 y3,LeO (spec_tiFirst.l0 k y0 y1 y2 y3) (spec_tiFirst.l0 (k + 1) y0 y1 y2 y3))
 | 0=>fun _ _ _ _ r h=>by simp [spec_tiFirst.l0] at h
 | k + 1=>by
  have ih0:=spec_tiFirst.mono_l k
  ·intro y0 y1 y2 y3
   unfold spec_tiFirst.l0
   exact mo
theorem spec_tiFirst.mono:∀ a0 k,LeO (spec_tiFirst.f k a0) (spec_tiFirst.f (k + 1) a0):=by
 intro a0 k
 have ih0:=spec_tiFirst.mono_l k
 unfold spec_tiFirst.f
 exact mo
theorem spec_tiFirst.calls (k:Nat) (A0:Option Addr) (c0:Nat) (l0:List Int) (r:Int) (w:World) (hr0:Kd.C (Kd.int .i64) w A0 l0.length l0) (hc0:l0.length ≤ c0) (h:spec_tiFirst.f k l0 = some r) :
  Calls Tryz.prog 161 #[.slice A0 l0.length c0] w fun e w'=>e = .returned (.int .i64 r) ∧ Drawn0 w w':=by
 have HR0:=am hr0
 have HC0:=am hc0
 clear hr0 hc0
 have H:(if 0 < (l0.length:Int) then (spec_tiFirst.l0 k (rd l0 0) l0 (l0.length:Int) 0) else (none)) = some r:=h
 clear h
 replace H:=gd H
 obtain ⟨c2,H⟩:=H
 have c2b0:=decide_eq_true c2
 have c2b1:decide (0 < l0.length) = true:=decide_eq_true o_m
 clear c2
 have H':=am H
 clear H
 have p101:0 ≤ (0:Int):=o_m
 have q101:0 < (l0.length:Int):=of_decide_eq_true aq4
 obtain ⟨ad101,e101,hx101_0⟩:=Kd.at_int HR0.out 0 p101 q101
 cases e101
 have qi101:(0 < l0.length) = True:=eq_true o_m
 (try rw [show ((0:Int)).toNat = 0 from rfl] at hx101_0)
 (try rw [Addr.add_zero'] at hx101_0)
 replace p101:=eq_true p101
 replace q101:=eq_true q101
 go_enter Tryz.func161,Tryz.ntmps161
 go_wp2
 go_loopg [3,11] k (fun kq v3 v11 w'=>∃ (x3_1:Int) (x11_1:Int),v3 = .int .i64 x3_1 ∧ v11 = .int .i64 x11_1 ∧ Aside0 (spec_tiFirst.l0 kq x3_1 l0 (l0.length:Int) x11_1 = some r) ∧ Aside0 (kq ≤ k) ∧ Drawn0 w w')
 case atStart=>exact ⟨(rd l0 0),(0),aq7,aq7,H',⟨Nat.le_refl _⟩,aq20⟩
 case round =>
  clear H'
  try clear c1
  try clear p1
  try clear q1
  try clear hx1
  try clear qi1
  try clear c2
  try clear c2b0
  try clear c2b1
  try clear p2
  try clear hx101_0
  try clear p101
  try clear q101
  obtain ⟨x3_1,x11_1,rfl,rfl,HA,HK1,⟨m1,rfl⟩⟩:=hrel
  cases gk with
  | zero=>exact absurd HA.out (by simp [spec_tiFirst.l0])
  | succ k1 =>
   have H:=HA.out
   clear HA
   simp only [spec_tiFirst.l0] at H
   by_cases c3:x11_1 < (l0.length:Int)
   rotate_left
   ·rw [if_neg c3] at H
    have c3b0:=decide_eq_false c3
    clear c3
    obtain rfl:=Option.some.inj H
    go_wp2
    go_ret
    exact ⟨aq7,aq20⟩
   rw [if_pos c3] at H
   have c3b0:=decide_eq_true c3
   clear c3
   replace H:=gd H
   obtain ⟨c4,H⟩:=H
   have c4b0:=decide_eq_true c4
   clear c4
   replace H:=gd H
   obtain ⟨c5,H⟩:=H
   have c5b0:=decide_eq_true c5
   clear c5
   obtain ⟨t103,A6,H⟩:=bn H
   have H':=am H
   clear H
   have p102:0 ≤ (x11_1:Int):=of_decide_eq_true aq4
   have q102:x11_1 < (l0.length:Int):=of_decide_eq_true aq4
   obtain ⟨ad102,e102,hx102_0⟩:=Kd.at_int HR0.out x11_1 p102 q102
   obtain rfl:ad101 = ad102:=(by injection e102)
   replace p102:=eq_true p102
   replace q102:=eq_true q102
   go_wp2_with (first | ((with_reducible refine gate_callee (f:=193) rfl ?_);refine goesL_ (some 17) rfl rfl Tryz.func193 k_r rfl #[.int .i64 x3_1,.int .i64 (rd l0 x11_1)] rfl aq6 ?_;(with_reducible refine (spec_l1Least.calls x3_1 (rd l0 x11_1) t103 _ A6.out).mono ?_);rintro e w' ⟨rfl,⟨nd,rfl⟩⟩;refine ⟨_,rfl,?_⟩))
   go_roundg k1
   case measure=>have:=HK1.out;omega
   case rel=>exact ⟨(t103),(wrap64 (x11_1 + 1)),aq7,aq7,H',⟨aq70⟩,aq20⟩
mutual
def spec_tiStretches.l0:Nat → Int → List (List Int) → List Int → Int → Int → Int → Int → List Int → Option ((List (List Int)))
 | 0,_,_,_,_,_,_,_,_=>none
 | k + 1,x1,x5,x13,x14,x15,x102000,x102001,x102002=>if x15 < x14 then (if 0 ≤ x15 then (if x15 < (x13.length:Int) then (if (rd x13 x15) = 35 then (spec_tiStretches.j1 k x1 x5 x15 x13 x14 x15 true x102000 x102001 x102002) else ((spec_tiAhead.f x102000 x102001 x102002 x15 x1).bind fun t103=>(spec_tiStretches.j1 k x1 x5 x15 x13 x14 x15 (decide (t103 ≥ 0)) x102000 x102001 x102002))) else (none)) else (none)) else (some x5)
def spec_tiStretches.j1:Nat → Int → List (List Int) → Int → List Int → Int → Int → Bool → Int → Int → List Int → Option ((List (List Int)))
 | 0,_,_,_,_,_,_,_,_,_,_=>none
 | k + 1,x1,x5,x6,x13,x14,x15,x28,x102000,x102001,x102002=>if x28 = true then (spec_tiStretches.l0 k x1 x5 x13 x14 (wrap64 (x15 + 1)) x102000 x102001 x102002) else ((spec_tiAhead.f x102000 x102001 x102002 x6 (Int.tmod (wrap64 (x1 + 2)) 4)).bind fun t107=>(spec_tiStretches.l1 k x1 x5 (([x6]:List Int)) t107 x13 x14 x15 x102000 x102001 x102002))
def spec_tiStretches.l1:Nat → Int → List (List Int) → List Int → Int → List Int → Int → Int → Int → Int → List Int → Option ((List (List Int)))
 | 0,_,_,_,_,_,_,_,_,_,_=>none
 | k + 1,x1,x5,x8,x9,x13,x14,x15,x102000,x102001,x102002=>if x9 ≥ 0 then (if x8.length < 17592186044416 then ((spec_tiAhead.f x102000 x102001 x102002 x9 (Int.tmod (wrap64 (x1 + 2)) 4)).bind fun t111=>(spec_tiStretches.l1 k x1 x5 (x8 ++ [x9]) t111 x13 x14 x15 x102000 x102001 x102002)) else (none)) else (spec_tiStretches.l2 k x1 x5 x8 0 x13 x14 x15 x102000 x102001 x102002)
def spec_tiStretches.l2:Nat → Int → List (List Int) → List Int → Int → List Int → Int → Int → Int → Int → List Int → Option ((List (List Int)))
 | 0,_,_,_,_,_,_,_,_,_,_=>none
 | k + 1,x1,x5,x8,x10,x13,x14,x15,x102000,x102001,x102002=>if x10 < (x5.length:Int) then (if 0 ≤ x10 then ((spec_tiFirst.f k (rd_L3 x5 x10)).bind fun t113=>((spec_tiFirst.f k x8).bind fun t114=>(if t113 < t114 then (spec_tiStretches.l2 k x1 x5 x8 (wrap64 (x10 + 1)) x13 x14 x15 x102000 x102001 x102002) else ((some (([]:List (List Int)):List (List Int))).bind fun y115=>(if x10 ≤ (x5.length:Int) then ((some (x5.take (x10:Int).toNat:List (List Int))).bind fun y118=>(if y115.length + y118.length < 5864062014805 then ((some (y115 ++ y118:List (List Int))).bind fun y123=>(if y123.length < 5864062014805 then ((some (y123 ++ [x8]:List (List Int))).bind fun y126=>((some (x5.drop (x10:Int).toNat:List (List Int))).bind fun y129=>(if y126.length + y129.length < 5864062014805 then (spec_tiStretches.l0 k x1 (y126 ++ y129) x13 x14 (wrap64 (x15 + 1)) x102000 x102001 x102002) else (none)))) else (none))) else (none))) else (none)))))) else (none)) else ((some (([]:List (List Int)):List (List Int))).bind fun y137=>(if 0 ≤ x10 then (if x10 ≤ (x5.length:Int) then ((some (x5.take (x10:Int).toNat:List (List Int))).bind fun y140=>(if y137.length + y140.length < 5864062014805 then ((some (y137 ++ y140:List (List Int))).bind fun y145=>(if y145.length < 5864062014805 then ((some (y145 ++ [x8]:List (List Int))).bind fun y148=>((some (x5.drop (x10:Int).toNat:List (List Int))).bind fun y151=>(if y148.length + y151.length < 5864062014805 then (spec_tiStretches.l0 k x1 (y148 ++ y151) x13 x14 (wrap64 (x15 + 1)) x102000 x102001 x102002) else (none)))) else (none))) else (none))) else (none)) else (none)))
end
def spec_tiStretches.f (k:Nat) (a0_0:Int) (a0_1:Int) (l0_2:List Int) (a1:Int):Option ((List (List Int))):=spec_tiStretches.l0 k a1 ([]:List (List Int)) l0_2 (l0_2.length:Int) 0 a0_0 a0_1 l0_2
theorem spec_tiStretches.mono_l:∀ k,(∀ y0 y1 y2 y3 y4 y5 y6 y7,LeO (spec_tiStretches.l0 k y0 y1 y2 y3 y4 y5 y6 y7) (spec_tiStretches.l0 (k + 1) y0 y1 y2 y3 y4 y5 y6 y7)) ∧ (∀ y0 y1 y2 y3 y4 y5 y6 y7 y8 y9,LeO (spec_tiStretches.j1 k y0 y1 y2 y3 y4 y5 y6 y7 y8 y9) (spec_tiStretches.j1 (k + 1) y0 y1 y2 y3 y4 y5 y6 y7 y8 y9)) ∧ (∀ y0 y1 y2 y3 y4 y5 y6 y7 y8 y9,LeO (spec_tiStretches.l1 k y0 y1 y2 y3 y4 y5 y6 y7 y8 y9) (spec_tiStretches.l1 (k + 1) y0 y1 y2 y3 y4 y5 y6 y7 y8 y9)) ∧ (∀ y0 y1 y2 y3 y4 y5 y6 y7 y8 y9,LeO (spec_tiStretches.l2 k y0 y1 y2 y3 y4 y5 y6 y7 y8 y9) (spec_tiStretches.l2 (k + 1) y0 y1 y2 y3 y4 y5 y6 y7 y8 y9))
 | 0=>⟨fun _ _ _ _ _ _ _ _ r h=>by simp [spec_tiStretches.l0] at h,fun _ _ _ _ _ _ _ _ _ _ r h=>by simp [spec_tiStretches.j1] at h,fun _ _ _ _ _ _ _ _ _ _ r h=>by simp [spec_tiStretches.l1] at h,fun _ _ _ _ _ _ _ _ _ _ r h=>by simp [spec_tiStretches.l2] at h⟩
 | k + 1=>by
  obtain ⟨ih0,ih1,ih2,ih3⟩:=spec_tiStretches.mono_l k
  refine ⟨?_,?_,?_,?_⟩
  ·intro y0 y1 y2 y3 y4 y5 y6 y7
   unfold spec_tiStretches.l0
   have im0:=@spec_tiFirst.mono;exact mo
  ·intro y0 y1 y2 y3 y4 y5 y6 y7 y8 y9
   unfold spec_tiStretches.j1
   have im0:=@spec_tiFirst.mono;exact mo
  ·intro y0 y1 y2 y3 y4 y5 y6 y7 y8 y9
   unfold spec_tiStretches.l1
   have im0:=@spec_tiFirst.mono;exact mo
  ·intro y0 y1 y2 y3 y4 y5 y6 y7 y8 y9
   unfold spec_tiStretches.l2
   have im0:=@spec_tiFirst.mono;exact mo
theorem spec_tiStretches.calls (k:Nat) (a0_0:Int) (a0_1:Int) (A0_2:Option Addr) (c0_2:Nat) (l0_2:List Int) (a1:Int) (r:List (List Int)) (w:World) (hr0_2:Kd.C (Kd.int .u8) w A0_2 l0_2.length l0_2) (hc0_2:l0_2.length ≤ c0_2) (h:spec_tiStretches.f k a0_0 a0_1 l0_2 a1 = some r) :
  Calls Tryz.prog 120 #[.agg #[.int .i64 a0_0,.int .i64 a0_1,.slice A0_2 l0_2.length c0_2],.int .i64 a1] w fun e w'=>∃ v0_:Value,e = .returned (v0_) ∧ Kd.N (Kd.slice 3 (Kd.int .i64)) 40 w' w.heap.size (fun k_=>(w.heap.size ≤ k_)) v0_ r ∧ Below w.heap.size w w':=by
 have hu75:=Tryz.underlying75
 have HR0_2:=am hr0_2
 have HC0_2:=am hc0_2
 clear hr0_2 hc0_2
 have HB:=am (Below.refl w.heap.size w)
 have H:(spec_tiStretches.l0 k a1 ([]:List (List Int)) l0_2 (l0_2.length:Int) 0 a0_0 a0_1 l0_2) = some r:=h
 clear h
 have H':=am H
 clear H
 go_enter Tryz.func120,Tryz.ntmps120
 go_wp2_with (first | (refine bx 2 #[.int .i64 a0_0,.int .i64 a0_1,.slice A0_2 l0_2.length c0_2] 75 ?_;intro gb101 hg w3 hbox hb;have BK101:=am (hbox);have GW101:=am ((by rw [hg];exact (below_size aq2):w.heap.size ≤ gb101));have GE101:=GW101;replace HB:=am (below_step aq2 hb);clear hb hbox hg;obtain ⟨hcz4_0,hcz4_1,hcz4_2,hfz4_0,hfz4_1,hfz4_2⟩:=blk3_ BK101.out))
 go_loopg [5,15] k (fun kq v5 v15 w'=>∃ (x5_1:List (List Int)) (x15_1:Int),v15 = .int .i64 x15_1 ∧ Aside0 (spec_tiStretches.l0 kq a1 x5_1 l0_2 (l0_2.length:Int) x15_1 a0_0 a0_1 l0_2 = some r) ∧ Aside0 (kq ≤ k) ∧ Aside0 (Kd.N (Kd.slice 3 (Kd.int .i64)) 40 w' w.heap.size (fun k_=>(w.heap.size ≤ k_) ∧ k_ ≠ gb101) v5 x5_1) ∧ Aside0 (w'.heap[gb101]? = some (.cells #[.int .i64 a0_0,.int .i64 a0_1,(.slice A0_2 l0_2.length c0_2)] 75 (0,0))) ∧ Aside0 (Below w.heap.size w w'))
 case atStart=>exact ⟨(([]:List (List Int))),(0),aq7,H',⟨Nat.le_refl _⟩,⟨aq77⟩,⟨aq1⟩,⟨aq0⟩⟩
 case round =>
  clear H'
  try clear c1
  try clear p2
  try clear hcz4_0
  try clear hcz4_1
  try clear hcz4_2
  try clear hfz4_0
  try clear hfz4_1
  try clear hfz4_2
  obtain ⟨x5_1,x15_1,rfl,HA,HK1,HO_5,BK101,HB⟩:=hrel
  cases gk with
  | zero=>exact absurd HA.out (by simp [spec_tiStretches.l0])
  | succ k1 =>
   have H:=HA.out
   clear HA
   simp only [spec_tiStretches.l0] at H
   by_cases c5:x15_1 < (l0_2.length:Int)
   rotate_left
   ·rw [if_neg c5] at H
    have c5b0:=decide_eq_false c5
    clear c5
    obtain rfl:=Option.some.inj H
    go_wp2
    go_ret
    exact ⟨_,aq8,by (with_reducible repeat (first | apply Kd.N_alloc | apply Kd.N_drewN | apply Kd.N_drew));exact Kd.N_mono HO_5.out (fun _ hk=>hk.1),aq0⟩
   rw [if_pos c5] at H
   have c5b0:=decide_eq_true c5
   clear c5
   replace H:=gd H
   obtain ⟨c6,H⟩:=H
   have c6b0:=decide_eq_true c6
   clear c6
   replace H:=gd H
   obtain ⟨c7,H⟩:=H
   have c7b0:=decide_eq_true c7
   clear c7
   have HC8:=am H
   clear H
   have p102:0 ≤ (x15_1:Int):=of_decide_eq_true aq4
   have q102:x15_1 < (l0_2.length:Int):=of_decide_eq_true aq4
   obtain ⟨ad102,e102,hx102_0⟩:=Kd.at_int HR0_2.out x15_1 p102 q102
   cases e102
   try replace hx102_0:=(HB.out.cell (World.block_lt_of_cell? w _ hx102_0)).trans hx102_0
   replace p102:=eq_true p102
   replace q102:=eq_true q102
   go_upto_region 5 with (fail)
   go_cut [28] (fun v28 wc=>∃ (kq:Nat) (x28_7:Bool),v28 = .bool x28_7 ∧ Aside0 (spec_tiStretches.j1 kq a1 x5_1 x15_1 l0_2 (l0_2.length:Int) x15_1 x28_7 a0_0 a0_1 l0_2 = some r) ∧ Aside0 (kq ≤ k1) ∧ Aside0 (Kd.N (Kd.slice 3 (Kd.int .i64)) 40 wc w.heap.size (fun k_=>(w.heap.size ≤ k_) ∧ k_ ≠ gb101) u5 x5_1) ∧ Aside0 (wc.heap[gb101]? = some (.cells #[.int .i64 a0_0,.int .i64 a0_1,(.slice (some ad102) l0_2.length c0_2)] 75 (0,0))) ∧ Aside0 (Below w.heap.size w wc))
   case first =>
    have H:=HC8.out
    clear HC8
    by_cases c9:(rd l0_2 x15_1) = 35
    ·rw [if_pos c9] at H
     have c9b0:=beq_iff_eq.mpr c9
     have c9b1:=bne_eq_false_iff_eq.mpr c9
     clear c9
     (first | rw [c9b0] | (simp only [i64_w,i32_w];rw [c9b0]) | skip)
     have H':=am H
     clear H
     go_wp2
     go_meet
     case rel=>exact ⟨_,(true),aq7,H',⟨aq74⟩,⟨aq24⟩,⟨aq1⟩,⟨aq0⟩⟩
    rw [if_neg c9] at H
    have c9b0:=beq_eq_false_iff_ne.mpr c9
    have c9b1:=bne_iff_ne.mpr c9
    (first | rw [c9b0] | (simp only [i64_w,i32_w];rw [c9b0]) | skip)
    obtain ⟨t103,A10,H⟩:=bn H
    have H':=am H
    clear H
    obtain ⟨hcz11_0,hcz11_1,hcz11_2,hfz11_0,hfz11_1,hfz11_2⟩:=blk3_ BK101.out
    go_wp2_with (first | (go_at_call 160;(with_reducible refine (spec_tiAhead.calls a0_0 a0_1 _ _ l0_2 x15_1 a1 t103 _ ?side1 ?side2 A10.out).mono ?_);(case side1=>exact aq11);(case side2=>exact HC0_2.out);rintro e w12 ⟨rfl,hb⟩;replace HO_5:=am (Kd.N_below aq24 hb);replace BK101:=am (bb BK101 hb);replace HB:=am (below_step aq0 hb);(try clear hb)))
    go_meet
    case rel=>exact ⟨_,(decide (t103 ≥ 0)),aq7,H',⟨aq74⟩,⟨aq24⟩,⟨aq1⟩,⟨aq0⟩⟩
   case rest =>
    clear HC8
    try clear c1
    try clear p1
    try clear q1
    try clear hx1
    try clear p2
    try clear c5
    try clear c5b0
    try clear c6
    try clear c6b0
    try clear c7
    try clear c7b0
    try clear c9
    try clear c9b0
    try clear c9b1
    try clear p10
    try clear q10
    try clear hx10
    try clear c12
    try clear hcz11_0
    try clear hcz11_1
    try clear hcz11_2
    try clear hcz4_0
    try clear hcz4_1
    try clear hcz4_2
    try clear hfz11_0
    try clear hfz11_1
    try clear hfz11_2
    try clear hfz4_0
    try clear hfz4_1
    try clear hfz4_2
    try clear hx102_0
    try clear p102
    try clear p2
    try clear q102
    obtain ⟨kq,x28_7,rfl,HA,HJ7,HO_5,BK101,HB⟩:=hcut
    cases kq with
    | zero=>exact absurd HA.out (by simp [spec_tiStretches.j1])
    | succ kj7 =>
     have H:=HA.out
     clear HA
     simp only [spec_tiStretches.j1] at H
     by_cases c13:x28_7 = true
     ·subst c13
      rw [if_pos rfl] at H
      have H':=am H
      clear H
      go_wp2
      go_roundg kj7
      case measure=>have:=HK1.out;have:=HJ7.out;omega
      case rel=>exact ⟨(x5_1),(wrap64 (x15_1 + 1)),aq7,H',⟨by have:=HK1.out;have:=HJ7.out;omega⟩,⟨aq24⟩,⟨aq1⟩,⟨aq0⟩⟩
     replace c13:=Bool.eq_false_iff.mpr c13
     subst c13
     rw [if_neg Bool.false_ne_true] at H
     obtain ⟨y104,hy_⟩:∃ y_:List Int,y_ = (([x15_1]:List Int)):=⟨_,rfl⟩
     replace H:((spec_tiAhead.f a0_0 a0_1 l0_2 x15_1 (Int.tmod (wrap64 (a1 + 2)) 4)).bind fun t107=>(spec_tiStretches.l1 kj7 a1 x5_1 y104 t107 l0_2 (l0_2.length:Int) x15_1 a0_0 a0_1 l0_2)) = some r:=aq5
     have Ny104:=am hy_
     clear hy_
     obtain ⟨t107,A14,H⟩:=bn H
     have H':=am H
     clear H
     go_wp2_with (first | ((with_reducible refine gate_dst (N:=30) rfl ?_);refine Kd.R_lit (Kd.int .i64) _ 3 ?hg (N:=30) ?hd (xs:=([x15_1]:List Int)) (inner:=[.int .i64 x15_1]) (ok:=fun _=>True) (okp:=fun _=>True) ?hr ?hp (fun _ hk=>hk) trivial (Below.refl _ _) (Nat.le_refl _) (by simp) ?_;(case hd=>rfl);(case hg=>rfl);(case hr=>exact aq13);(case hp=>exact (Reps.one (show Kd.M (Kd.int .i64) _ _ _ x15_1 [.int .i64 x15_1] from rfl) (Reps.none _ _)));intro v105 w15 ho16 hb hg_ hnew_;clear hg_ hnew_;(first | rw [← Ny104.out] at ho16 | (simp only [Int.reduceToNat] at ho16;rw [← Ny104.out] at ho16));replace HO_5:=am (Kd.N_elder' aq24 (Kd.R_base ho16) hb);have HO106:=am (Kd.R_lower (Kd.R_newM (M:=fun k_=>(w.heap.size ≤ k_)) ho16 (below_size aq0) (fun k_ h_=>h_)) (below_size aq0));replace BK101:=am (bb BK101 hb);replace HB:=am (below_step aq0 hb);clear hb ho16;obtain ⟨hcz17_0,hcz17_1,hcz17_2,hfz17_0,hfz17_1,hfz17_2⟩:=blk3_ BK101.out) | ((with_reducible refine gate_callee (f:=160) rfl ?_);refine goesL_ (some 36) rfl rfl Tryz.func160 k_r rfl #[.agg #[.int .i64 a0_0,.int .i64 a0_1,.slice (some ad102) l0_2.length c0_2],.int .i64 x15_1,.int .i64 (Int.tmod (wrap64 (a1 + 2)) 4)] rfl aq6 ?_;(with_reducible refine (spec_tiAhead.calls a0_0 a0_1 _ _ l0_2 x15_1 (Int.tmod (wrap64 (a1 + 2)) 4) t107 _ ?side1 ?side2 A14.out).mono ?_);(case side1=>exact aq11);(case side2=>exact HC0_2.out);rintro e w18 ⟨rfl,hb⟩;refine ⟨_,rfl,?_⟩;replace HO_5:=am (Kd.N_below aq24 hb);replace HO106:=am (Kd.R_below aq22 hb);replace BK101:=am (bb BK101 hb);replace HB:=am (below_step aq0 hb);(try clear hb)))
     go_loopg [8,9] kj7 (fun kq v8 v9 w'=>∃ (x8_3:List Int) (x9_3:Int),v9 = .int .i64 x9_3 ∧ Aside0 (spec_tiStretches.l1 kq a1 x5_1 x8_3 x9_3 l0_2 (l0_2.length:Int) x15_1 a0_0 a0_1 l0_2 = some r) ∧ Aside0 (kq ≤ kj7) ∧ Aside0 (Kd.N (Kd.slice 3 (Kd.int .i64)) 40 w' w.heap.size (fun k_=>(w.heap.size ≤ k_) ∧ some k_ ≠ (v8:Value).ownBlock ∧ k_ ≠ gb101) u5 x5_1) ∧ Aside0 (Kd.R (Kd.int .i64) 3 w' w.heap.size (fun k_=>(w.heap.size ≤ k_)) v8 x8_3) ∧ Aside0 (w'.heap[gb101]? = some (.cells #[.int .i64 a0_0,.int .i64 a0_1,(.slice (some ad102) l0_2.length c0_2)] 75 (0,0))) ∧ Aside0 (Below w.heap.size w w'))
     case atStart=>exact ⟨(y104),(t107),aq7,H',⟨Nat.le_refl _⟩,⟨aq108⟩,⟨by (with_reducible repeat (first | apply Kd.R_alloc | apply Kd.R_drewN | apply Kd.R_drew));exact Kd.R_mono HO106.out (fun _ hk=>hk.1)⟩,⟨aq1⟩,⟨aq0⟩⟩
     case round =>
      clear H'
      try clear c1
      try clear p1
      try clear q1
      try clear hx1
      try clear p2
      try clear c5
      try clear c5b0
      try clear c6
      try clear c6b0
      try clear p6
      try clear c7
      try clear c7b0
      try clear c9
      try clear c9b0
      try clear c9b1
      try clear p10
      try clear q10
      try clear hx10
      try clear c12
      try clear c13
      try clear c16
      try clear hcz11_0
      try clear hcz11_1
      try clear hcz11_2
      try clear hcz17_0
      try clear hcz17_1
      try clear hcz17_2
      try clear hcz4_0
      try clear hcz4_1
      try clear hcz4_2
      try clear hfz11_0
      try clear hfz11_1
      try clear hfz11_2
      try clear hfz17_0
      try clear hfz17_1
      try clear hfz17_2
      try clear hfz4_0
      try clear hfz4_1
      try clear hfz4_2
      try clear hx102_0
      try clear p1
      try clear p10
      try clear p102
      try clear p2
      try clear q1
      try clear q10
      try clear q102
      obtain ⟨x8_3,x9_3,rfl,HA,HK3,HO_5,HO_8,BK101,HB⟩:=hrel
      cases gk with
      | zero=>exact absurd HA.out (by simp [spec_tiStretches.l1])
      | succ k3 =>
       have H:=HA.out
       clear HA
       simp only [spec_tiStretches.l1] at H
       by_cases c19:x9_3 ≥ 0
       ·rw [if_pos c19] at H
        have c19b0:=decide_eq_true c19
        clear c19
        replace H:=gd H
        obtain ⟨c20,H⟩:=H
        have LMc20:=am c20
        clear c20
        obtain ⟨y108,hy_⟩:∃ y_:List Int,y_ = (x8_3 ++ [x9_3]):=⟨_,rfl⟩
        replace H:((spec_tiAhead.f a0_0 a0_1 l0_2 x9_3 (Int.tmod (wrap64 (a1 + 2)) 4)).bind fun t111=>(spec_tiStretches.l1 k3 a1 x5_1 y108 t111 l0_2 (l0_2.length:Int) x15_1 a0_0 a0_1 l0_2)) = some r:=aq5
        have Ny108:=am hy_
        clear hy_
        obtain ⟨t111,A21,H⟩:=bn H
        have H':=am H
        clear H
        go_wp2_with (first | ((with_reducible refine gate_builtin (b:=.append) (xs:=#[.tmp 45,.tmp 47]) rfl ?_);at_builtin;refine Kd.R_append (Kd.int .i64) (w0:=w) w.heap.size rfl (.tmp 45) (.tmp 47) 40 3 (.int .i64 0) 8 rfl Tryz.underlying40 info3 rfl d_c o_m u8 x8_3 x9_3 [.int .i64 x9_3] (fun k_=>(w.heap.size ≤ k_)) (fun _=>False) rfl rfl ?aP (fun _ hk=>hk.elim) ?aF ?aO ?aB ?aS ?aL ?_;(case aP=>exact rfl);(case aB=>exact aq0);(case aF=>exact (fun k_ hk=>(Nat.le_trans (below_size aq0) hk)));(case aO=>exact aq25);(case aS=>exact aq80);(case aL=>have:=LMc20.out;omega);intro v109 w22 ho hb hg hat;rw [← Ny108.out] at ho;replace HO_5:=am (Kd.N_afterv (ok:=(fun k_=>(w.heap.size ≤ k_) ∧ k_ ≠ gb101)) (by (with_reducible repeat (first | apply Kd.N_alloc | apply Kd.N_drewN | apply Kd.N_drew));exact Kd.N_mono HO_5.out (fun _ hk=>⟨⟨hk.1,hk.2.2⟩,hk.2.1⟩)) hg hat);replace BK101:=am (bg BK101 hg (Kd.R_ne HO_8.out BK101.out d_c));replace HB:=am (hb);have HO110:=am (ho);clear HO_8 ho hb hg hat;obtain ⟨hcz23_0,hcz23_1,hcz23_2,hfz23_0,hfz23_1,hfz23_2⟩:=blk3_ BK101.out) | ((with_reducible refine gate_callee (f:=160) rfl ?_);refine goesL_ (some 44) rfl rfl Tryz.func160 k_r rfl #[.agg #[.int .i64 a0_0,.int .i64 a0_1,.slice (some ad102) l0_2.length c0_2],.int .i64 x9_3,.int .i64 (Int.tmod (wrap64 (a1 + 2)) 4)] rfl aq6 ?_;(with_reducible refine (spec_tiAhead.calls a0_0 a0_1 _ _ l0_2 x9_3 (Int.tmod (wrap64 (a1 + 2)) 4) t111 _ ?side1 ?side2 A21.out).mono ?_);(case side1=>exact aq11);(case side2=>exact HC0_2.out);rintro e w24 ⟨rfl,hb⟩;refine ⟨_,rfl,?_⟩;replace HO_5:=am (Kd.N_below aq24 hb);replace HO110:=am (Kd.R_below (by (with_reducible repeat (first | apply Kd.R_alloc | apply Kd.R_drewN | apply Kd.R_drew));exact HO110.out) hb);replace BK101:=am (bb BK101 hb);replace HB:=am (below_step aq0 hb);(try clear hb)))
        go_roundg k3
        case measure=>have:=HK1.out;have:=HJ7.out;have:=HK3.out;omega
        case rel=>exact ⟨(y108),(t111),aq7,H',⟨by have:=HK1.out;have:=HJ7.out;have:=HK3.out;omega⟩,⟨aq108⟩,⟨by (with_reducible repeat (first | apply Kd.R_alloc | apply Kd.R_drewN | apply Kd.R_drew));exact HO110.out⟩,⟨aq1⟩,⟨aq0⟩⟩
       rw [if_neg c19] at H
       have c19b0:=decide_eq_false c19
       clear c19
       have H':=am H
       clear H
       go_wp2
       go_loopg [10] k3 (fun kq v10 w'=>∃ (x10_4:Int),v10 = .int .i64 x10_4 ∧ Aside0 (spec_tiStretches.l2 kq a1 x5_1 x8_3 x10_4 l0_2 (l0_2.length:Int) x15_1 a0_0 a0_1 l0_2 = some r) ∧ Aside0 (kq ≤ k3) ∧ Aside0 (Kd.N (Kd.slice 3 (Kd.int .i64)) 40 w' w.heap.size (fun k_=>(w.heap.size ≤ k_) ∧ some k_ ≠ (u8:Value).ownBlock ∧ k_ ≠ gb101) u5 x5_1) ∧ Aside0 (Kd.R (Kd.int .i64) 3 w' w.heap.size (fun k_=>(w.heap.size ≤ k_)) u8 x8_3) ∧ Aside0 (w'.heap[gb101]? = some (.cells #[.int .i64 a0_0,.int .i64 a0_1,(.slice (some ad102) l0_2.length c0_2)] 75 (0,0))) ∧ Aside0 (Below w.heap.size w w'))
       case atStart=>exact ⟨(0),aq7,H',⟨Nat.le_refl _⟩,⟨aq24⟩,⟨aq25⟩,⟨aq1⟩,⟨aq0⟩⟩
       case round =>
        clear H'
        try clear c1
        try clear p1
        try clear q1
        try clear hx1
        try clear c2
        try clear p2
        try clear c5
        try clear c5b0
        try clear c6
        try clear c6b0
        try clear p6
        try clear c7
        try clear c7b0
        try clear c9
        try clear c9b0
        try clear c9b1
        try clear p10
        try clear q10
        try clear hx10
        try clear c12
        try clear c13
        try clear c16
        try clear c19
        try clear c19b0
        try clear c20
        try clear hcz11_0
        try clear hcz11_1
        try clear hcz11_2
        try clear hcz17_0
        try clear hcz17_1
        try clear hcz17_2
        try clear hcz23_0
        try clear hcz23_1
        try clear hcz23_2
        try clear hcz4_0
        try clear hcz4_1
        try clear hcz4_2
        try clear hfz11_0
        try clear hfz11_1
        try clear hfz11_2
        try clear hfz17_0
        try clear hfz17_1
        try clear hfz17_2
        try clear hfz23_0
        try clear hfz23_1
        try clear hfz23_2
        try clear hfz4_0
        try clear hfz4_1
        try clear hfz4_2
        try clear hx102_0
        try clear p1
        try clear p10
        try clear p102
        try clear p2
        try clear p6
        try clear q1
        try clear q10
        try clear q102
        obtain ⟨x10_4,rfl,HA,HK4,HO_5,HO_8,BK101,HB⟩:=hrel
        cases gk with
        | zero=>exact absurd HA.out (by simp [spec_tiStretches.l2])
        | succ k4 =>
         have H:=HA.out
         clear HA
         simp only [spec_tiStretches.l2] at H
         by_cases c25:x10_4 < (x5_1.length:Int)
         rotate_left
         ·rw [if_neg c25] at H
          have c25b0:=decide_eq_false c25
          clear c25
          obtain ⟨y137,hy_⟩:∃ y_:List (List Int),y_ = (([]:List (List Int))):=⟨_,rfl⟩
          replace H:(if 0 ≤ x10_4 then (if x10_4 ≤ (x5_1.length:Int) then ((some (x5_1.take (x10_4:Int).toNat:List (List Int))).bind fun y140=>(if y137.length + y140.length < 5864062014805 then ((some (y137 ++ y140:List (List Int))).bind fun y145=>(if y145.length < 5864062014805 then ((some (y145 ++ [x8_3]:List (List Int))).bind fun y148=>((some (x5_1.drop (x10_4:Int).toNat:List (List Int))).bind fun y151=>(if y148.length + y151.length < 5864062014805 then (spec_tiStretches.l0 k4 a1 (y148 ++ y151) l0_2 (l0_2.length:Int) (wrap64 (x15_1 + 1)) a0_0 a0_1 l0_2) else (none)))) else (none))) else (none))) else (none)) else (none)) = some r:=aq5
          have Ny137:=am hy_
          clear hy_
          replace H:=gd H
          obtain ⟨c48,H⟩:=H
          have c48b0:=eq_true c48
          have c48b1:=decide_eq_true c48
          clear c48
          replace H:=gd H
          obtain ⟨c49,H⟩:=H
          have c49b0:=eq_true c49
          have c49b1:=decide_eq_true c49
          clear c49
          obtain ⟨y140,hy_⟩:∃ y_:List (List Int),y_ = (x5_1.take (x10_4:Int).toNat):=⟨_,rfl⟩
          replace H:(if y137.length + y140.length < 5864062014805 then ((some (y137 ++ y140:List (List Int))).bind fun y145=>(if y145.length < 5864062014805 then ((some (y145 ++ [x8_3]:List (List Int))).bind fun y148=>((some (x5_1.drop (x10_4:Int).toNat:List (List Int))).bind fun y151=>(if y148.length + y151.length < 5864062014805 then (spec_tiStretches.l0 k4 a1 (y148 ++ y151) l0_2 (l0_2.length:Int) (wrap64 (x15_1 + 1)) a0_0 a0_1 l0_2) else (none)))) else (none))) else (none)) = some r:=aq5
          have Ny140:=am hy_
          clear hy_
          replace H:=gd H
          obtain ⟨c50,H⟩:=H
          have LMc50:=am c50
          clear c50
          obtain ⟨y145,hy_⟩:∃ y_:List (List Int),y_ = (y137 ++ y140):=⟨_,rfl⟩
          replace H:(if y145.length < 5864062014805 then ((some (y145 ++ [x8_3]:List (List Int))).bind fun y148=>((some (x5_1.drop (x10_4:Int).toNat:List (List Int))).bind fun y151=>(if y148.length + y151.length < 5864062014805 then (spec_tiStretches.l0 k4 a1 (y148 ++ y151) l0_2 (l0_2.length:Int) (wrap64 (x15_1 + 1)) a0_0 a0_1 l0_2) else (none)))) else (none)) = some r:=aq5
          have Ny145:=am hy_
          clear hy_
          replace H:=gd H
          obtain ⟨c51,H⟩:=H
          have LMc51:=am c51
          clear c51
          obtain ⟨y148,hy_⟩:∃ y_:List (List Int),y_ = (y145 ++ [x8_3]):=⟨_,rfl⟩
          replace H:((some (x5_1.drop (x10_4:Int).toNat:List (List Int))).bind fun y151=>(if y148.length + y151.length < 5864062014805 then (spec_tiStretches.l0 k4 a1 (y148 ++ y151) l0_2 (l0_2.length:Int) (wrap64 (x15_1 + 1)) a0_0 a0_1 l0_2) else (none))) = some r:=aq5
          have Ny148:=am hy_
          clear hy_
          have c52b0:=eq_true (of_decide_eq_true aq4:0 ≤ x10_4)
          have c53b0:=eq_true (of_decide_eq_true aq4:x10_4 ≤ (x5_1.length:Int))
          obtain ⟨y151,hy_⟩:∃ y_:List (List Int),y_ = (x5_1.drop (x10_4:Int).toNat):=⟨_,rfl⟩
          replace H:(if y148.length + y151.length < 5864062014805 then (spec_tiStretches.l0 k4 a1 (y148 ++ y151) l0_2 (l0_2.length:Int) (wrap64 (x15_1 + 1)) a0_0 a0_1 l0_2) else (none)) = some r:=aq5
          have Ny151:=am hy_
          clear hy_
          replace H:=gd H
          obtain ⟨c54,H⟩:=H
          have LMc54:=am c54
          clear c54
          obtain ⟨y156,hy_⟩:∃ y_:List (List Int),y_ = (y148 ++ y151):=⟨_,rfl⟩
          replace H:(spec_tiStretches.l0 k4 a1 y156 l0_2 (l0_2.length:Int) (wrap64 (x15_1 + 1)) a0_0 a0_1 l0_2) = some r:=aq5
          have Ny156:=am hy_
          clear hy_
          have H':=am H
          clear H
          obtain ⟨Ao55,co55,eo55⟩:=Kd.N_slice HO_5.out
          subst eo55
          go_wp2_with (first | ((with_reducible refine gate_dst (N:=65) rfl ?_);refine Kd.N_lit (Kd.slice 3 (Kd.int .i64)) _ 40 ?hg (N':=65) ?hd (xs:=([]:List (List Int))) (inner:=[]) (ok:=(fun k_=>(w.heap.size ≤ k_) ∧ some k_ ≠ (.slice Ao55 x5_1.length co55:Value).ownBlock ∧ some k_ ≠ (u8:Value).ownBlock ∧ k_ ≠ gb101)) (okp:=(fun k_=>(w.heap.size ≤ k_) ∧ some k_ ≠ (.slice Ao55 x5_1.length co55:Value).ownBlock ∧ some k_ ≠ (u8:Value).ownBlock ∧ k_ ≠ gb101)) ?hr ?hp (fun _ hk=>hk) ((show ∀ k_,wr.heap.size ≤ k_ → (fun k_=>(w.heap.size ≤ k_) ∧ some k_ ≠ (.slice Ao55 x5_1.length co55:Value).ownBlock ∧ some k_ ≠ (u8:Value).ownBlock ∧ k_ ≠ gb101) k_ from fun k_ hk=>⟨(Nat.le_trans (below_size aq0) hk),Kd.fresh' (Kd.N_lt aq24) k_ hk,Kd.fresh' (Kd.R_lt aq25) k_ hk,Kd.freshB (g:=gb101) (o:=.cells #[.int .i64 a0_0,.int .i64 a0_1,.slice (some ad102) l0_2.length c0_2] 75 (0,0)) aq1 k_ hk⟩) _ (Nat.le_refl _)) (Below.refl _ _) (Nat.le_refl _) (by simp) ?_;(case hd=>rfl);(case hg=>rfl);(case hr=>exact aq13);(case hp=>exact (Reps.none _ _));intro v138 w56 ho57 hb hg_ hnew_;clear hg_ hnew_;(first | rw [← Ny137.out] at ho57 | (simp only [Int.reduceToNat] at ho57;rw [← Ny137.out] at ho57));replace HO_5:=am (Kd.N_elder' aq24 (Kd.N_base ho57) hb);replace HO_8:=am (Kd.R_below aq25 hb);have HO139:=am (Kd.N_lower ho57 (below_size aq0));replace BK101:=am (bb BK101 hb);replace HB:=am (below_step aq0 hb);clear hb ho57;have q58:(x10_4:Int) ≤ ((x5_1.length:Int):Int):=of_decide_eq_true aq4;obtain ⟨i058,hi058,_,hsz58,_⟩:=info_parts info40;have hroom58:x5_1.length ≤ co55:=(Kd.N_reads' HO_5.out).2.1;have hC58:Kd.F (Kd.slice 3 (Kd.int .i64)) _ _ Ao55 x5_1.length x5_1:=(Kd.V_at (base:=w.heap.size) (Kd.N_V HO_5.out)).2.2;have hcut58:=cut_to (P:=Tryz.prog) 57 40 .i64 Tryz.underlying57 hi058 Ao55 x5_1.length co55 x10_4 (of_decide_eq_true aq4) q58 hroom58;have hr58:=Kd.F_take (m:=(x10_4:Int).toNat) hC58 o_m;have hy58:y140.length = (x10_4:Int).toNat:=(by rw [Ny140.out,List.length_take];omega);rw [← Ny140.out] at hr58;rw [← hy58] at hcut58;have HO144:=am (show Kd.V (Kd.slice 3 (Kd.int .i64)) 40 _ w.heap.size _ (.slice Ao55 y140.length co55) y140 from Kd.V_mk o_m hr58);have HC144:=am (show y140.length ≤ co55 from by omega);clear hr58 hC58 hroom58 hi058 hsz58;have KY58:=am hy58;clear hy58;replace q58:=eq_true q58) | ((with_reducible refine gate_builtin (b:=.append) (xs:=#[.tmp 65,.tmp 68]) rfl ?_);at_builtin;refine Kd.N_append_rows (Kd.slice 3 (Kd.int .i64)) (w0:=w) w.heap.size rfl (.tmp 65) (.tmp 68) 57 40 (.slice none 0 0) 24 rfl Tryz.underlying57 info40 rfl d_c o_m v138 y137 y140 _ _ _ (fun k_=>(w.heap.size ≤ k_) ∧ some k_ ≠ (u8:Value).ownBlock ∧ k_ ≠ gb101) (fun k_=>((fun k_=>(w.heap.size ≤ k_) ∧ some k_ ≠ (u8:Value).ownBlock ∧ k_ ≠ gb101)) k_ ∧ some k_ ≠ (v138:Value).ownBlock) rfl rfl ?aO ?aR (fun _ hk=>hk) ?aF ?aB ?aS ?aL ?_;(case aR=>exact (by skip;exact Kd.V_F (Kd.V_mono (ok':=(fun k_=>((fun k_=>(w.heap.size ≤ k_) ∧ some k_ ≠ (u8:Value).ownBlock ∧ k_ ≠ gb101)) k_ ∧ some k_ ≠ (v138:Value).ownBlock)) (HO144.out) (fun k_ hk=>⟨⟨hk.1.1,⟨hk.1.2.1,hk.1.2.2⟩⟩,hk.2⟩))));(case aB=>exact aq0);(case aF=>exact aq90);(case aO=>exact (by (with_reducible repeat (first | apply Kd.N_alloc | apply Kd.N_drewN | apply Kd.N_drew));exact Kd.N_mono HO139.out (fun _ hk=>⟨hk.1,⟨hk.2.2.1,hk.2.2.2⟩⟩)));(case aS=>exact aq80);(case aL=>have:=LMc50.out;omega);intro v146 w59 ho hb hg hat;rw [← Ny145.out] at ho;replace HO_5:=am (Kd.N_afterv (ok:=(fun k_=>(w.heap.size ≤ k_) ∧ some k_ ≠ (u8:Value).ownBlock ∧ k_ ≠ gb101)) aq24 hg hat);replace HO_8:=am (Kd.R_over' aq25 (Kd.N_typed (by (with_reducible repeat (first | apply Kd.N_alloc | apply Kd.N_drewN | apply Kd.N_drew));exact HO139.out)) d_c hg);replace BK101:=am (bg BK101 hg (Kd.N_ne HO139.out BK101.out d_c));replace HO144:=am (Kd.V_afterv (ok:=(fun k_=>(w.heap.size ≤ k_) ∧ some k_ ≠ (u8:Value).ownBlock ∧ k_ ≠ gb101)) (by (with_reducible repeat (first | apply Kd.V_alloc | apply Kd.V_drewN | apply Kd.V_drew));exact HO144.out) hg hat);replace HB:=am (hb);have HO147:=am (ho);clear HO139 ho hb hg hat;obtain ⟨Ao61,co61,eo61⟩:=Kd.R_slice HO_8.out;subst eo61) | ((with_reducible refine gate_builtin (b:=.append) (xs:=#[.tmp 69,.tmp 71]) rfl ?_);at_builtin;refine Kd.N_append (Kd.slice 3 (Kd.int .i64)) (w0:=w) w.heap.size rfl (.tmp 69) (.tmp 71) 57 40 (.slice none 0 0) 24 rfl Tryz.underlying57 info40 rfl d_c o_m v146 y145 x8_3 [.slice Ao61 x8_3.length co61] (fun k_=>(w.heap.size ≤ k_) ∧ k_ ≠ gb101) (fun k_=>((fun k_=>(w.heap.size ≤ k_) ∧ k_ ≠ gb101)) k_ ∧ some k_ ≠ (v146:Value).ownBlock) rfl rfl ?aP (fun _ hk=>hk) ?aF ?aO ?aB ?aS ?aL ?_;(case aP=>exact (Kd.FK_slice_mk (Kd.R_reads' (Kd.R_mono (ok':=(fun k_=>((fun k_=>(w.heap.size ≤ k_) ∧ k_ ≠ gb101)) k_ ∧ some k_ ≠ (v146:Value).ownBlock)) (Kd.R_types (Kd.R_apart' (HO_8.out) (Kd.N_typed HO147.out) d_c) BK101.out d_c) (fun k_ hk=>⟨⟨hk.1.1,hk.2⟩,hk.1.2⟩))).2.1 (Kd.R_F (Kd.R_mono (ok':=(fun k_=>((fun k_=>(w.heap.size ≤ k_) ∧ k_ ≠ gb101)) k_ ∧ some k_ ≠ (v146:Value).ownBlock)) (Kd.R_types (Kd.R_apart' (HO_8.out) (Kd.N_typed HO147.out) d_c) BK101.out d_c) (fun k_ hk=>⟨⟨hk.1.1,hk.2⟩,hk.1.2⟩)))));(case aB=>exact aq0);(case aF=>exact aq52);(case aO=>exact (by (with_reducible repeat (first | apply Kd.N_alloc | apply Kd.N_drewN | apply Kd.N_drew));exact Kd.N_mono HO147.out (fun _ hk=>⟨hk.1,hk.2.2⟩)));(case aS=>exact aq80);(case aL=>have:=LMc51.out;omega);intro v149 w60 ho hb hg hat;rw [← Ny148.out] at ho;replace HO_5:=am (Kd.N_afterv (ok:=(fun k_=>(w.heap.size ≤ k_) ∧ some k_ ≠ (.slice Ao61 x8_3.length co61:Value).ownBlock ∧ k_ ≠ gb101)) aq24 hg hat);replace BK101:=am (bg BK101 hg (Kd.N_ne HO147.out BK101.out d_c));replace HO144:=am (Kd.V_afterv (ok:=(fun k_=>(w.heap.size ≤ k_) ∧ some k_ ≠ (.slice Ao61 x8_3.length co61:Value).ownBlock ∧ k_ ≠ gb101)) (by (with_reducible repeat (first | apply Kd.V_alloc | apply Kd.V_drewN | apply Kd.V_drew));exact HO144.out) hg hat);replace HB:=am (hb);have HO150:=am (ho);clear HO147 HO_8 ho hb hg hat;have q62:(x10_4:Int) ≤ ((x5_1.length:Int):Int):=of_decide_eq_true aq4;obtain ⟨i062,hi062,_,hsz62,_⟩:=info_parts info40;have hroom62:x5_1.length ≤ co55:=(Kd.N_reads' HO_5.out).2.1;have hC62:Kd.F (Kd.slice 3 (Kd.int .i64)) _ _ Ao55 x5_1.length x5_1:=(Kd.V_at (base:=w.heap.size) (Kd.N_V HO_5.out)).2.2;have q062:(0:Int) ≤ (x10_4:Int):=of_decide_eq_true aq4;have hcut62:=cut_from (P:=Tryz.prog) 57 40 .i64 Tryz.underlying57 hi062 1 hsz62 Ao55 x5_1.length co55 x10_4 q062 q62;have hr62:=Kd.F_cut (m:=(x10_4:Int).toNat) (c:=co55) hC62 o_m hroom62;obtain ⟨A62,hA62⟩:∃ A1,A1 = (if co55 = (x10_4:Int).toNat then Ao55 else (Ao55:Option Addr).map (·.add ((x10_4:Int).toNat * 1))):=⟨_,rfl⟩;obtain ⟨c62,hc62⟩:∃ c1,c1 = co55 - (x10_4:Int).toNat:=⟨_,rfl⟩;have hy62:y151.length = x5_1.length - (x10_4:Int).toNat:=(by rw [Ny151.out,List.length_drop] <;> omega);rw [show (x5_1).drop (x10_4:Int).toNat = y151 from Ny151.out.symm] at hr62;replace hr62:Kd.F (Kd.slice 3 (Kd.int .i64)) _ _ A62 y151.length y151:=(by rw [hA62];exact hr62);rw [← hy62,← hA62,← hc62] at hcut62;have HO155:=am (show Kd.V (Kd.slice 3 (Kd.int .i64)) 40 _ w.heap.size _ (.slice A62 y151.length c62) y151 from Kd.V_mk (by rw [hy62,hc62];exact Nat.sub_le_sub_right hroom62 _) hr62);have HC155:=am (show y151.length ≤ c62 from by rw [hy62,hc62];exact Nat.sub_le_sub_right hroom62 _);clear hr62 hC62 hroom62 hi062 hsz62 hc62;have KY62:=am hy62;have KA62:=am hA62;clear hy62 hA62;replace q62:=eq_true q62) | ((with_reducible refine gate_builtin (b:=.append) (xs:=#[.tmp 73,.tmp 76]) rfl ?_);at_builtin;refine Kd.N_append_rows (Kd.slice 3 (Kd.int .i64)) (w0:=w) w.heap.size rfl (.tmp 73) (.tmp 76) 57 40 (.slice none 0 0) 24 rfl Tryz.underlying57 info40 rfl d_c o_m v149 y148 y151 _ _ _ (fun k_=>(w.heap.size ≤ k_) ∧ k_ ≠ gb101) (fun k_=>((fun k_=>(w.heap.size ≤ k_) ∧ k_ ≠ gb101)) k_ ∧ some k_ ≠ (v149:Value).ownBlock) rfl rfl ?aO ?aR (fun _ hk=>hk) ?aF ?aB ?aS ?aL ?_;(case aR=>exact (by skip;exact Kd.V_F (Kd.V_mono (ok':=(fun k_=>((fun k_=>(w.heap.size ≤ k_) ∧ k_ ≠ gb101)) k_ ∧ some k_ ≠ (v149:Value).ownBlock)) (HO155.out) (fun k_ hk=>⟨⟨hk.1.1,hk.1.2.2⟩,hk.2⟩))));(case aB=>exact aq0);(case aF=>exact aq52);(case aO=>exact (by (with_reducible repeat (first | apply Kd.N_alloc | apply Kd.N_drewN | apply Kd.N_drew));exact HO150.out));(case aS=>exact aq80);(case aL=>have:=LMc54.out;omega);intro v157 w63 ho hb hg hat;rw [← Ny156.out] at ho;replace HO_5:=am (Kd.N_afterv (ok:=(fun k_=>(w.heap.size ≤ k_) ∧ k_ ≠ gb101)) aq104 hg hat);replace BK101:=am (bg BK101 hg (Kd.N_ne HO150.out BK101.out d_c));replace HO144:=am (Kd.V_afterv (ok:=(fun k_=>(w.heap.size ≤ k_) ∧ k_ ≠ gb101)) (by (with_reducible repeat (first | apply Kd.V_alloc | apply Kd.V_drewN | apply Kd.V_drew));exact Kd.V_mono HO144.out (fun _ hk=>⟨⟨hk.1.1,hk.1.2.2⟩,hk.2⟩)) hg hat);replace HO155:=am (Kd.V_afterv (ok:=(fun k_=>(w.heap.size ≤ k_) ∧ k_ ≠ gb101)) (by (with_reducible repeat (first | apply Kd.V_alloc | apply Kd.V_drewN | apply Kd.V_drew));exact Kd.V_mono HO155.out (fun _ hk=>⟨⟨hk.1.1,hk.1.2.2⟩,hk.2⟩)) hg hat);replace HB:=am (hb);have HO158:=am (ho);clear HO150 ho hb hg hat))
          go_roundg k4
          case measure=>have:=HK1.out;have:=HJ7.out;have:=HK3.out;have:=HK4.out;omega
          case rel=>exact ⟨(y156),(wrap64 (x15_1 + 1)),aq7,H',⟨aq105⟩,⟨by (with_reducible repeat (first | apply Kd.N_alloc | apply Kd.N_drewN | apply Kd.N_drew));exact HO158.out⟩,⟨aq1⟩,⟨aq0⟩⟩
         rw [if_pos c25] at H
         have c25b0:=decide_eq_true c25
         clear c25
         replace H:=gd H
         obtain ⟨c26,H⟩:=H
         have c26b0:=decide_eq_true c26
         clear c26
         obtain ⟨t113,A27,H⟩:=bn H
         obtain ⟨t114,A28,H⟩:=bn H
         by_cases c29:t113 < t114
         ·rw [if_pos c29] at H
          have c29b0:=decide_eq_true c29
          clear c29
          have H':=am H
          clear H
          obtain ⟨Ao30,co30,eo30⟩:=Kd.N_slice HO_5.out
          subst eo30
          have p112:0 ≤ (x10_4:Int):=of_decide_eq_true aq4
          have q112:x10_4 < (x5_1.length:Int):=of_decide_eq_true aq4
          obtain ⟨ad112,A112_0,c112_0,e112,hx112_0,hl112_0,hi112_0⟩:=at_L3 (Kd.N_reads' HO_5.out).2.2 x10_4 p112 q112
          cases e112
          obtain ⟨ce112,hce112,hMe112,hcc112⟩:=Kd.N_get HO_5.out [] x10_4 p112 (by first | exact q112 | exact of_decide_eq_true aq4 | (have e_:=(Kd.N_reads' HO_5.out).1;omega))
          obtain ⟨ua112_0,uc112_0,rfl,ul112_0,ge112_0⟩:=Kd.FK_slice_open hMe112
          have hv112_0:=hcc112 0 _ rfl
          rw [Nat.add_zero,show ((Kd.slice 3 (Kd.int .i64))).sz = 1 from rfl,Nat.mul_one] at hv112_0
          replace hv112_0:=Option.some.inj (hv112_0.symm.trans hx112_0)
          injection hv112_0 with hva_ hvn_ hvc_
          rw [hva_] at ge112_0
          rw [hvc_] at ul112_0
          have HL112_0:=am (show Kd.V (Kd.int .i64) 3 _ w.heap.size _ _ (rd_L3 x5_1 x10_4) from Kd.V_mk ul112_0 ge112_0)
          clear hva_ hvn_ hvc_ ge112_0 ul112_0 hcc112 hce112
          have HR112_0:=am hi112_0
          have HC112_0:=am hl112_0
          clear hi112_0 hl112_0
          replace p112:=eq_true p112
          replace q112:=eq_true q112
          go_wp2_with (first | (go_at_call 161;(with_reducible refine (spec_tiFirst.calls k4 _ _ (rd_L3 x5_1 x10_4) t113 _ ?side1 ?side2 A27.out).mono ?_);(case side1=>exact aq111);(case side2=>exact HC112_0.out);rintro e w' ⟨rfl,⟨nd,rfl⟩⟩;obtain ⟨Ao31,co31,eo31⟩:=Kd.R_slice HO_8.out;subst eo31) | (go_at_call 161;(with_reducible refine (spec_tiFirst.calls k4 _ _ x8_3 t114 _ ?side1 ?side2 A28.out).mono ?_);(case side1=>exact aq102);(case side2=>exact (Kd.R_reads' HO_8.out).2.1);rintro e w' ⟨rfl,⟨nd,rfl⟩⟩))
          go_roundg k4
          case measure=>have:=HK1.out;have:=HJ7.out;have:=HK3.out;have:=HK4.out;omega
          case rel=>exact ⟨(wrap64 (x10_4 + 1)),aq7,H',⟨aq105⟩,⟨aq24⟩,⟨aq25⟩,⟨aq1⟩,⟨aq0⟩⟩
         rw [if_neg c29] at H
         have c29b0:=decide_eq_false c29
         clear c29
         obtain ⟨y115,hy_⟩:∃ y_:List (List Int),y_ = (([]:List (List Int))):=⟨_,rfl⟩
         replace H:(if x10_4 ≤ (x5_1.length:Int) then ((some (x5_1.take (x10_4:Int).toNat:List (List Int))).bind fun y118=>(if y115.length + y118.length < 5864062014805 then ((some (y115 ++ y118:List (List Int))).bind fun y123=>(if y123.length < 5864062014805 then ((some (y123 ++ [x8_3]:List (List Int))).bind fun y126=>((some (x5_1.drop (x10_4:Int).toNat:List (List Int))).bind fun y129=>(if y126.length + y129.length < 5864062014805 then (spec_tiStretches.l0 k4 a1 (y126 ++ y129) l0_2 (l0_2.length:Int) (wrap64 (x15_1 + 1)) a0_0 a0_1 l0_2) else (none)))) else (none))) else (none))) else (none)) = some r:=aq5
         have Ny115:=am hy_
         clear hy_
         have c32b0:=eq_true (of_decide_eq_true aq4:0 ≤ x10_4)
         replace H:=gd H
         obtain ⟨c33,H⟩:=H
         have c33b0:=eq_true c33
         have c33b1:=decide_eq_true c33
         clear c33
         obtain ⟨y118,hy_⟩:∃ y_:List (List Int),y_ = (x5_1.take (x10_4:Int).toNat):=⟨_,rfl⟩
         replace H:(if y115.length + y118.length < 5864062014805 then ((some (y115 ++ y118:List (List Int))).bind fun y123=>(if y123.length < 5864062014805 then ((some (y123 ++ [x8_3]:List (List Int))).bind fun y126=>((some (x5_1.drop (x10_4:Int).toNat:List (List Int))).bind fun y129=>(if y126.length + y129.length < 5864062014805 then (spec_tiStretches.l0 k4 a1 (y126 ++ y129) l0_2 (l0_2.length:Int) (wrap64 (x15_1 + 1)) a0_0 a0_1 l0_2) else (none)))) else (none))) else (none)) = some r:=aq5
         have Ny118:=am hy_
         clear hy_
         replace H:=gd H
         obtain ⟨c34,H⟩:=H
         have LMc34:=am c34
         clear c34
         obtain ⟨y123,hy_⟩:∃ y_:List (List Int),y_ = (y115 ++ y118):=⟨_,rfl⟩
         replace H:(if y123.length < 5864062014805 then ((some (y123 ++ [x8_3]:List (List Int))).bind fun y126=>((some (x5_1.drop (x10_4:Int).toNat:List (List Int))).bind fun y129=>(if y126.length + y129.length < 5864062014805 then (spec_tiStretches.l0 k4 a1 (y126 ++ y129) l0_2 (l0_2.length:Int) (wrap64 (x15_1 + 1)) a0_0 a0_1 l0_2) else (none)))) else (none)) = some r:=aq5
         have Ny123:=am hy_
         clear hy_
         replace H:=gd H
         obtain ⟨c35,H⟩:=H
         have LMc35:=am c35
         clear c35
         obtain ⟨y126,hy_⟩:∃ y_:List (List Int),y_ = (y123 ++ [x8_3]):=⟨_,rfl⟩
         replace H:((some (x5_1.drop (x10_4:Int).toNat:List (List Int))).bind fun y129=>(if y126.length + y129.length < 5864062014805 then (spec_tiStretches.l0 k4 a1 (y126 ++ y129) l0_2 (l0_2.length:Int) (wrap64 (x15_1 + 1)) a0_0 a0_1 l0_2) else (none))) = some r:=aq5
         have Ny126:=am hy_
         clear hy_
         have c36b0:=eq_true (of_decide_eq_true aq4:0 ≤ x10_4)
         have c37b0:=eq_true (of_decide_eq_true aq4:x10_4 ≤ (x5_1.length:Int))
         obtain ⟨y129,hy_⟩:∃ y_:List (List Int),y_ = (x5_1.drop (x10_4:Int).toNat):=⟨_,rfl⟩
         replace H:(if y126.length + y129.length < 5864062014805 then (spec_tiStretches.l0 k4 a1 (y126 ++ y129) l0_2 (l0_2.length:Int) (wrap64 (x15_1 + 1)) a0_0 a0_1 l0_2) else (none)) = some r:=aq5
         have Ny129:=am hy_
         clear hy_
         replace H:=gd H
         obtain ⟨c38,H⟩:=H
         have LMc38:=am c38
         clear c38
         obtain ⟨y134,hy_⟩:∃ y_:List (List Int),y_ = (y126 ++ y129):=⟨_,rfl⟩
         replace H:(spec_tiStretches.l0 k4 a1 y134 l0_2 (l0_2.length:Int) (wrap64 (x15_1 + 1)) a0_0 a0_1 l0_2) = some r:=aq5
         have Ny134:=am hy_
         clear hy_
         have H':=am H
         clear H
         obtain ⟨Ao39,co39,eo39⟩:=Kd.N_slice HO_5.out
         subst eo39
         have p112:0 ≤ (x10_4:Int):=of_decide_eq_true aq4
         have q112:x10_4 < (x5_1.length:Int):=of_decide_eq_true aq4
         obtain ⟨ad112,A112_0,c112_0,e112,hx112_0,hl112_0,hi112_0⟩:=at_L3 (Kd.N_reads' HO_5.out).2.2 x10_4 p112 q112
         cases e112
         obtain ⟨ce112,hce112,hMe112,hcc112⟩:=Kd.N_get HO_5.out [] x10_4 p112 (by first | exact q112 | exact of_decide_eq_true aq4 | (have e_:=(Kd.N_reads' HO_5.out).1;omega))
         obtain ⟨ua112_0,uc112_0,rfl,ul112_0,ge112_0⟩:=Kd.FK_slice_open hMe112
         have hv112_0:=hcc112 0 _ rfl
         rw [Nat.add_zero,show ((Kd.slice 3 (Kd.int .i64))).sz = 1 from rfl,Nat.mul_one] at hv112_0
         replace hv112_0:=Option.some.inj (hv112_0.symm.trans hx112_0)
         injection hv112_0 with hva_ hvn_ hvc_
         rw [hva_] at ge112_0
         rw [hvc_] at ul112_0
         have HL112_0:=am (show Kd.V (Kd.int .i64) 3 _ w.heap.size _ _ (rd_L3 x5_1 x10_4) from Kd.V_mk ul112_0 ge112_0)
         clear hva_ hvn_ hvc_ ge112_0 ul112_0 hcc112 hce112
         have HR112_0:=am hi112_0
         have HC112_0:=am hl112_0
         clear hi112_0 hl112_0
         replace p112:=eq_true p112
         replace q112:=eq_true q112
         go_wp2_with (first | (go_at_call 161;(with_reducible refine (spec_tiFirst.calls k4 _ _ (rd_L3 x5_1 x10_4) t113 _ ?side1 ?side2 A27.out).mono ?_);(case side1=>exact aq111);(case side2=>exact HC112_0.out);rintro e w' ⟨rfl,⟨nd,rfl⟩⟩;obtain ⟨Ao40,co40,eo40⟩:=Kd.R_slice HO_8.out;subst eo40) | (go_at_call 161;(with_reducible refine (spec_tiFirst.calls k4 _ _ x8_3 t114 _ ?side1 ?side2 A28.out).mono ?_);(case side1=>exact aq102);(case side2=>exact (Kd.R_reads' HO_8.out).2.1);rintro e w' ⟨rfl,⟨nd,rfl⟩⟩) | ((with_reducible refine gate_dst (N:=65) rfl ?_);refine Kd.N_lit (Kd.slice 3 (Kd.int .i64)) _ 40 ?hg (N':=65) ?hd (xs:=([]:List (List Int))) (inner:=[]) (ok:=(fun k_=>(w.heap.size ≤ k_) ∧ some k_ ≠ (.slice (some ad112) x5_1.length co39:Value).ownBlock ∧ some k_ ≠ (.slice Ao40 x8_3.length co40:Value).ownBlock ∧ k_ ≠ gb101)) (okp:=(fun k_=>(w.heap.size ≤ k_) ∧ some k_ ≠ (.slice (some ad112) x5_1.length co39:Value).ownBlock ∧ some k_ ≠ (.slice Ao40 x8_3.length co40:Value).ownBlock ∧ k_ ≠ gb101)) ?hr ?hp (fun _ hk=>hk) ((show ∀ k_,wr.heap.size ≤ k_ → (fun k_=>(w.heap.size ≤ k_) ∧ some k_ ≠ (.slice (some ad112) x5_1.length co39:Value).ownBlock ∧ some k_ ≠ (.slice Ao40 x8_3.length co40:Value).ownBlock ∧ k_ ≠ gb101) k_ from fun k_ hk=>⟨(Nat.le_trans (below_size aq0) hk),Kd.fresh' (Kd.N_lt aq24) k_ hk,Kd.fresh' (Kd.R_lt aq25) k_ hk,Kd.freshB (g:=gb101) (o:=.cells #[.int .i64 a0_0,.int .i64 a0_1,.slice (some ad102) l0_2.length c0_2] 75 (0,0)) aq1 k_ hk⟩) _ (Nat.le_refl _)) (Below.refl _ _) (Nat.le_refl _) (by simp) ?_;(case hd=>rfl);(case hg=>rfl);(case hr=>exact aq13);(case hp=>exact (Reps.none _ _));intro v116 w41 ho42 hb hg_ hnew_;clear hg_ hnew_;(first | rw [← Ny115.out] at ho42 | (simp only [Int.reduceToNat] at ho42;rw [← Ny115.out] at ho42));replace HO_5:=am (Kd.N_elder' aq24 (Kd.N_base ho42) hb);replace HO_8:=am (Kd.R_below aq25 hb);replace HL112_0:=am (Kd.V_elder' (by (with_reducible repeat (first | apply Kd.V_alloc | apply Kd.V_drewN | apply Kd.V_drew));exact HL112_0.out) (Kd.N_base ho42) hb);have HO117:=am (Kd.N_lower ho42 (below_size aq0));replace BK101:=am (bb BK101 hb);replace HR112_0:=am (Kd.C_below aq59 hb);replace HB:=am (below_step aq0 hb);clear hb ho42;have q43:(x10_4:Int) ≤ ((x5_1.length:Int):Int):=of_decide_eq_true aq4;obtain ⟨i043,hi043,_,hsz43,_⟩:=info_parts info40;have hroom43:x5_1.length ≤ co39:=(Kd.N_reads' HO_5.out).2.1;have hC43:Kd.F (Kd.slice 3 (Kd.int .i64)) _ _ (some ad112) x5_1.length x5_1:=(Kd.V_at (base:=w.heap.size) (Kd.N_V HO_5.out)).2.2;have hcut43:=cut_to (P:=Tryz.prog) 57 40 .i64 Tryz.underlying57 hi043 (some ad112) x5_1.length co39 x10_4 (of_decide_eq_true aq4) q43 hroom43;have hr43:=Kd.F_take (m:=(x10_4:Int).toNat) hC43 o_m;have hy43:y118.length = (x10_4:Int).toNat:=(by rw [Ny118.out,List.length_take];omega);rw [← Ny118.out] at hr43;rw [← hy43] at hcut43;have HO122:=am (show Kd.V (Kd.slice 3 (Kd.int .i64)) 40 _ w.heap.size _ (.slice (some ad112) y118.length co39) y118 from Kd.V_mk o_m hr43);have HC122:=am (show y118.length ≤ co39 from by omega);clear hr43 hC43 hroom43 hi043 hsz43;have KY43:=am hy43;clear hy43;replace q43:=eq_true q43) | ((with_reducible refine gate_builtin (b:=.append) (xs:=#[.tmp 65,.tmp 68]) rfl ?_);at_builtin;refine Kd.N_append_rows (Kd.slice 3 (Kd.int .i64)) (w0:=w) w.heap.size rfl (.tmp 65) (.tmp 68) 57 40 (.slice none 0 0) 24 rfl Tryz.underlying57 info40 rfl d_c o_m v116 y115 y118 _ _ _ (fun k_=>(w.heap.size ≤ k_) ∧ some k_ ≠ (.slice Ao40 x8_3.length co40:Value).ownBlock ∧ k_ ≠ gb101) (fun k_=>((fun k_=>(w.heap.size ≤ k_) ∧ some k_ ≠ (.slice Ao40 x8_3.length co40:Value).ownBlock ∧ k_ ≠ gb101)) k_ ∧ some k_ ≠ (v116:Value).ownBlock) rfl rfl ?aO ?aR (fun _ hk=>hk) ?aF ?aB ?aS ?aL ?_;(case aR=>exact (by skip;exact Kd.V_F (Kd.V_mono (ok':=(fun k_=>((fun k_=>(w.heap.size ≤ k_) ∧ some k_ ≠ (.slice Ao40 x8_3.length co40:Value).ownBlock ∧ k_ ≠ gb101)) k_ ∧ some k_ ≠ (v116:Value).ownBlock)) (HO122.out) (fun k_ hk=>⟨⟨hk.1.1,⟨hk.1.2.1,hk.1.2.2⟩⟩,hk.2⟩))));(case aB=>exact aq0);(case aF=>exact aq90);(case aO=>exact (by (with_reducible repeat (first | apply Kd.N_alloc | apply Kd.N_drewN | apply Kd.N_drew));exact Kd.N_mono HO117.out (fun _ hk=>⟨hk.1,⟨hk.2.2.1,hk.2.2.2⟩⟩)));(case aS=>exact aq80);(case aL=>have:=LMc34.out;omega);intro v124 w44 ho hb hg hat;rw [← Ny123.out] at ho;replace HO_5:=am (Kd.N_afterv (ok:=(fun k_=>(w.heap.size ≤ k_) ∧ some k_ ≠ (.slice Ao40 x8_3.length co40:Value).ownBlock ∧ k_ ≠ gb101)) aq24 hg hat);replace HO_8:=am (Kd.R_over' aq25 (Kd.N_typed (by (with_reducible repeat (first | apply Kd.N_alloc | apply Kd.N_drewN | apply Kd.N_drew));exact HO117.out)) d_c hg);replace BK101:=am (bg BK101 hg (Kd.N_ne HO117.out BK101.out d_c));replace HL112_0:=am (Kd.V_afterv (ok:=(fun k_=>(w.heap.size ≤ k_) ∧ some k_ ≠ (.slice (some ad112) x5_1.length co39:Value).ownBlock ∧ some k_ ≠ (.slice Ao40 x8_3.length co40:Value).ownBlock ∧ k_ ≠ gb101)) (by (with_reducible repeat (first | apply Kd.V_alloc | apply Kd.V_drewN | apply Kd.V_drew));exact Kd.V_mono HL112_0.out (fun _ hk=>⟨⟨hk.1.1.1,⟨hk.1.2,⟨hk.1.1.2.1,hk.1.1.2.2⟩⟩⟩,hk.2⟩)) hg hat);replace HO122:=am (Kd.V_afterv (ok:=(fun k_=>(w.heap.size ≤ k_) ∧ some k_ ≠ (.slice Ao40 x8_3.length co40:Value).ownBlock ∧ k_ ≠ gb101)) (by (with_reducible repeat (first | apply Kd.V_alloc | apply Kd.V_drewN | apply Kd.V_drew));exact HO122.out) hg hat);replace HB:=am (hb);have HO125:=am (ho);clear HO117 ho hb hg hat) | ((with_reducible refine gate_builtin (b:=.append) (xs:=#[.tmp 69,.tmp 71]) rfl ?_);at_builtin;refine Kd.N_append (Kd.slice 3 (Kd.int .i64)) (w0:=w) w.heap.size rfl (.tmp 69) (.tmp 71) 57 40 (.slice none 0 0) 24 rfl Tryz.underlying57 info40 rfl d_c o_m v124 y123 x8_3 [.slice Ao40 x8_3.length co40] (fun k_=>(w.heap.size ≤ k_) ∧ k_ ≠ gb101) (fun k_=>((fun k_=>(w.heap.size ≤ k_) ∧ k_ ≠ gb101)) k_ ∧ some k_ ≠ (v124:Value).ownBlock) rfl rfl ?aP (fun _ hk=>hk) ?aF ?aO ?aB ?aS ?aL ?_;(case aP=>exact (Kd.FK_slice_mk (Kd.R_reads' (Kd.R_mono (ok':=(fun k_=>((fun k_=>(w.heap.size ≤ k_) ∧ k_ ≠ gb101)) k_ ∧ some k_ ≠ (v124:Value).ownBlock)) (Kd.R_types (Kd.R_apart' (HO_8.out) (Kd.N_typed HO125.out) d_c) BK101.out d_c) (fun k_ hk=>⟨⟨hk.1.1,hk.2⟩,hk.1.2⟩))).2.1 (Kd.R_F (Kd.R_mono (ok':=(fun k_=>((fun k_=>(w.heap.size ≤ k_) ∧ k_ ≠ gb101)) k_ ∧ some k_ ≠ (v124:Value).ownBlock)) (Kd.R_types (Kd.R_apart' (HO_8.out) (Kd.N_typed HO125.out) d_c) BK101.out d_c) (fun k_ hk=>⟨⟨hk.1.1,hk.2⟩,hk.1.2⟩)))));(case aB=>exact aq0);(case aF=>exact aq52);(case aO=>exact (by (with_reducible repeat (first | apply Kd.N_alloc | apply Kd.N_drewN | apply Kd.N_drew));exact Kd.N_mono HO125.out (fun _ hk=>⟨hk.1,hk.2.2⟩)));(case aS=>exact aq80);(case aL=>have:=LMc35.out;omega);intro v127 w45 ho hb hg hat;rw [← Ny126.out] at ho;replace HO_5:=am (Kd.N_afterv (ok:=(fun k_=>(w.heap.size ≤ k_) ∧ some k_ ≠ (.slice Ao40 x8_3.length co40:Value).ownBlock ∧ k_ ≠ gb101)) aq24 hg hat);replace BK101:=am (bg BK101 hg (Kd.N_ne HO125.out BK101.out d_c));replace HL112_0:=am (Kd.V_afterv (ok:=(fun k_=>(w.heap.size ≤ k_) ∧ some k_ ≠ (.slice (some ad112) x5_1.length co39:Value).ownBlock ∧ some k_ ≠ (.slice Ao40 x8_3.length co40:Value).ownBlock ∧ k_ ≠ gb101)) (by (with_reducible repeat (first | apply Kd.V_alloc | apply Kd.V_drewN | apply Kd.V_drew));exact HL112_0.out) hg hat);replace HO122:=am (Kd.V_afterv (ok:=(fun k_=>(w.heap.size ≤ k_) ∧ some k_ ≠ (.slice Ao40 x8_3.length co40:Value).ownBlock ∧ k_ ≠ gb101)) (by (with_reducible repeat (first | apply Kd.V_alloc | apply Kd.V_drewN | apply Kd.V_drew));exact HO122.out) hg hat);replace HB:=am (hb);have HO128:=am (ho);clear HO125 HO_8 ho hb hg hat;have q46:(x10_4:Int) ≤ ((x5_1.length:Int):Int):=of_decide_eq_true aq4;obtain ⟨i046,hi046,_,hsz46,_⟩:=info_parts info40;have hroom46:x5_1.length ≤ co39:=(Kd.N_reads' HO_5.out).2.1;have hC46:Kd.F (Kd.slice 3 (Kd.int .i64)) _ _ (some ad112) x5_1.length x5_1:=(Kd.V_at (base:=w.heap.size) (Kd.N_V HO_5.out)).2.2;have q046:(0:Int) ≤ (x10_4:Int):=of_decide_eq_true aq4;have hcut46:=cut_from (P:=Tryz.prog) 57 40 .i64 Tryz.underlying57 hi046 1 hsz46 (some ad112) x5_1.length co39 x10_4 q046 q46;have hr46:=Kd.F_cut (m:=(x10_4:Int).toNat) (c:=co39) hC46 o_m hroom46;obtain ⟨A46,hA46⟩:∃ A1,A1 = (if co39 = (x10_4:Int).toNat then (some ad112) else ((some ad112):Option Addr).map (·.add ((x10_4:Int).toNat * 1))):=⟨_,rfl⟩;obtain ⟨c46,hc46⟩:∃ c1,c1 = co39 - (x10_4:Int).toNat:=⟨_,rfl⟩;have hy46:y129.length = x5_1.length - (x10_4:Int).toNat:=(by rw [Ny129.out,List.length_drop] <;> omega);rw [show (x5_1).drop (x10_4:Int).toNat = y129 from Ny129.out.symm] at hr46;replace hr46:Kd.F (Kd.slice 3 (Kd.int .i64)) _ _ A46 y129.length y129:=(by rw [hA46];exact hr46);rw [← hy46,← hA46,← hc46] at hcut46;have HO133:=am (show Kd.V (Kd.slice 3 (Kd.int .i64)) 40 _ w.heap.size _ (.slice A46 y129.length c46) y129 from Kd.V_mk (by rw [hy46,hc46];exact Nat.sub_le_sub_right hroom46 _) hr46);have HC133:=am (show y129.length ≤ c46 from by rw [hy46,hc46];exact Nat.sub_le_sub_right hroom46 _);clear hr46 hC46 hroom46 hi046 hsz46 hc46;have KY46:=am hy46;have KA46:=am hA46;clear hy46 hA46;replace q46:=eq_true q46) | ((with_reducible refine gate_builtin (b:=.append) (xs:=#[.tmp 73,.tmp 76]) rfl ?_);at_builtin;refine Kd.N_append_rows (Kd.slice 3 (Kd.int .i64)) (w0:=w) w.heap.size rfl (.tmp 73) (.tmp 76) 57 40 (.slice none 0 0) 24 rfl Tryz.underlying57 info40 rfl d_c o_m v127 y126 y129 _ _ _ (fun k_=>(w.heap.size ≤ k_) ∧ k_ ≠ gb101) (fun k_=>((fun k_=>(w.heap.size ≤ k_) ∧ k_ ≠ gb101)) k_ ∧ some k_ ≠ (v127:Value).ownBlock) rfl rfl ?aO ?aR (fun _ hk=>hk) ?aF ?aB ?aS ?aL ?_;(case aR=>exact (by skip;exact Kd.V_F (Kd.V_mono (ok':=(fun k_=>((fun k_=>(w.heap.size ≤ k_) ∧ k_ ≠ gb101)) k_ ∧ some k_ ≠ (v127:Value).ownBlock)) (HO133.out) (fun k_ hk=>⟨⟨hk.1.1,hk.1.2.2⟩,hk.2⟩))));(case aB=>exact aq0);(case aF=>exact aq52);(case aO=>exact (by (with_reducible repeat (first | apply Kd.N_alloc | apply Kd.N_drewN | apply Kd.N_drew));exact HO128.out));(case aS=>exact aq80);(case aL=>have:=LMc38.out;omega);intro v135 w47 ho hb hg hat;rw [← Ny134.out] at ho;replace HO_5:=am (Kd.N_afterv (ok:=(fun k_=>(w.heap.size ≤ k_) ∧ k_ ≠ gb101)) aq104 hg hat);replace BK101:=am (bg BK101 hg (Kd.N_ne HO128.out BK101.out d_c));replace HL112_0:=am (Kd.V_afterv (ok:=(fun k_=>(w.heap.size ≤ k_) ∧ some k_ ≠ (.slice (some ad112) x5_1.length co39:Value).ownBlock ∧ k_ ≠ gb101)) (by (with_reducible repeat (first | apply Kd.V_alloc | apply Kd.V_drewN | apply Kd.V_drew));exact Kd.V_mono HL112_0.out (fun _ hk=>⟨⟨hk.1.1,⟨hk.1.2.1,hk.1.2.2.2⟩⟩,hk.2⟩)) hg hat);replace HO122:=am (Kd.V_afterv (ok:=(fun k_=>(w.heap.size ≤ k_) ∧ k_ ≠ gb101)) (by (with_reducible repeat (first | apply Kd.V_alloc | apply Kd.V_drewN | apply Kd.V_drew));exact Kd.V_mono HO122.out (fun _ hk=>⟨⟨hk.1.1,hk.1.2.2⟩,hk.2⟩)) hg hat);replace HO133:=am (Kd.V_afterv (ok:=(fun k_=>(w.heap.size ≤ k_) ∧ k_ ≠ gb101)) (by (with_reducible repeat (first | apply Kd.V_alloc | apply Kd.V_drewN | apply Kd.V_drew));exact Kd.V_mono HO133.out (fun _ hk=>⟨⟨hk.1.1,hk.1.2.2⟩,hk.2⟩)) hg hat);replace HB:=am (hb);have HO136:=am (ho);clear HO128 ho hb hg hat))
         go_roundg k4
         case measure=>have:=HK1.out;have:=HJ7.out;have:=HK3.out;have:=HK4.out;omega
         case rel=>exact ⟨(y134),(wrap64 (x15_1 + 1)),aq7,H',⟨aq105⟩,⟨by (with_reducible repeat (first | apply Kd.N_alloc | apply Kd.N_drewN | apply Kd.N_drew));exact HO136.out⟩,⟨aq1⟩,⟨aq0⟩⟩
end Go.Proofs.YtldhkbiomingbaaGreatDoor.F

namespace Go.Proofs.YtldhkbiomingbaaGreatDoor
open Go.RowKit Go.YW.PrintWords Go.YW.PrintMore Go.Proofs.YtldhkbiomingbaaGreatDoor.F
theorem rd_cast (l:List Nat) (i:Nat) (h:i < l.length):rd (castsI l) (i:Int) = ((l[i]'h:Nat):Int):=by
 unfold rd
 rw [Int.toNat_natCast,List.getD_eq_getElem?_getD,castsI_getD l i h];rfl
theorem casts_app (a b:List Nat):castsI (a ++ b) = castsI a ++ castsI b:=by simp [castsI]
theorem casts_one (i:Nat):castsI [i] = [((i:Nat):Int)]:=rfl
theorem least_ev (x y:Nat):spec_l1Least.f (x:Int) (y:Int) = some ((Nat.min x y:Nat):Int):=by
 unfold spec_l1Least.f
 by_cases h:x < y
 rotate_left
 ·rw [if_neg o_m,show Nat.min x y = y from Nat.min_eq_right o_m]
 rw [if_pos o_m,show Nat.min x y = x from Nat.min_eq_left o_m]
theorem tiFirst_l0 (L:List Nat) (hL:L.length < 1000000):∀ (n i m:Nat),i + n = L.length → Ev (fun k=>spec_tiFirst.l0 k (m:Int) (castsI L) (L.length:Int) (i:Int)) (((L.drop i).foldl Nat.min m:Nat):Int)
 | 0,i,m,h=>by
  refine Ev.step (f:=fun _=>some (m:Int)) (fun k=>by rw [spec_tiFirst.l0,if_neg o_m]) ?_
  rw [List.drop_eq_nil_of_le o_m]
  exact Ev.now _
 | n + 1,i,m,h=>by
  have hi:i < L.length:=by omega
  have hw:wrap64 ((i:Int) + 1) = ((i + 1:Nat):Int):=by rw [w64 o_m o_m];rfl
  refine Ev.step (f:=fun k=>spec_tiFirst.l0 k ((Nat.min m (L[i]'hi):Nat):Int) (castsI L) (L.length:Int) ((i + 1:Nat):Int)) (fun k=>by
   rw [spec_tiFirst.l0,if_pos o_m,if_pos o_m,castsI_length,if_pos o_m,rd_cast L i hi,least_ev,Option.bind_some,hw]) ?_
  rw [List.drop_eq_getElem_cons hi,List.foldl_cons]
  exact tiFirst_l0 L hL n (i + 1) _ o_m
theorem tiFirst_ev {L:List Nat} (hne:L ≠ []) (hL:L.length < 1000000):Ev (fun k=>spec_tiFirst.f k (castsI L)) ((leastL L:Nat):Int):=by
 obtain ⟨a,t,rfl⟩:∃ a t,L = a :: t:=by cases L with | nil=>exact absurd rfl hne | cons a t=>exact ⟨a,t,rfl⟩
 have h0:=tiFirst_l0 (a :: t) hL (a :: t).length 0 a o_m
 have e:((a :: t).drop 0).foldl Nat.min a = leastL (a :: t):=by
  rw [List.drop_zero,List.foldl_cons,show Nat.min a a = a from Nat.min_self a];rfl
 rw [e] at h0
 refine Ev.congr (fun k=>?_) h0
 unfold spec_tiFirst.f
 rw [castsI_length,if_pos (by simp only [List.length_cons];omega),show rd (castsI (a :: t)) 0 = (a:Int) from rfl];rfl
theorem tyCell_eq {w h:Nat} (hw:1 ≤ w ∧ w ≤ 7) (hh:1 ≤ h ∧ h ≤ 7) (cs:List Int) (X Y:Int):spec_tyCell.f w h cs X Y = some (decide ((0 ≤ X ∧ X < (w:Int)) ∧ 0 ≤ Y ∧ Y < (h:Int))):=by
 unfold spec_tyCell.f spec_l1In.f
 rw [w64 (show -9223372036854775808 ≤ (w:Int) - 1 by omega) o_m,w64 (show -9223372036854775808 ≤ (h:Int) - 1 by omega) o_m]
 by_cases h1:X ≥ 0
 rotate_left
 ·rw [if_neg h1,Option.bind_some,if_neg Bool.false_ne_true]
  congr 1
  exact (decide_eq_false o_m).symm
 rw [if_pos h1,Option.bind_some]
 by_cases h2:X ≤ (w:Int) - 1
 rotate_left
 ·rw [if_neg (by simp [h2])]
  congr 1
  exact (decide_eq_false o_m).symm
 rw [if_pos (decide_eq_true h2)]
 by_cases h3:Y ≥ 0
 rotate_left
 ·rw [if_neg h3,Option.bind_some]
  congr 1
  exact (decide_eq_false o_m).symm
 rw [if_pos h3,Option.bind_some]
 congr 1
 rw [Bool.eq_iff_iff,decide_eq_true_iff,decide_eq_true_iff]
 omega
def lookI (w h:Nat) (cs:List Int) (X Y:Int):Int:=if (0 ≤ X ∧ X < (w:Int)) ∧ 0 ≤ Y ∧ Y < (h:Int) then (if openAt cs (Y.toNat * w + X.toNat) = true then ((Y.toNat * w + X.toNat:Nat):Int) else -1) else -1
theorem look_eq {w h:Nat} (hw:1 ≤ w ∧ w ≤ 7) (hh:1 ≤ h ∧ h ≤ 7) {cs:List Int} (hl:cs.length = w * h) (X Y:Int) :
  ((spec_tyCell.f w h cs X Y).bind fun t=>if t = true then (if 0 ≤ wrap64 (wrap64 (Y * w) + X) then (if wrap64 (wrap64 (Y * w) + X) < (cs.length:Int) then (if rd cs (wrap64 (wrap64 (Y * w) + X)) = 35 then some (-1) else some (wrap64 (wrap64 (Y * w) + X))) else none) else none) else some (-1)) = some (lookI w h cs X Y):=by
 rw [tyCell_eq hw hh,Option.bind_some]
 unfold lookI
 by_cases hc:(0 ≤ X ∧ X < (w:Int)) ∧ 0 ≤ Y ∧ Y < (h:Int)
 rotate_left
 ·rw [if_neg (by simp only [decide_eq_true_eq];exact hc),if_neg hc]
 rw [if_pos (decide_eq_true hc),if_pos hc]
 obtain ⟨⟨x,rfl⟩,⟨y,rfl⟩⟩:(∃ x:Nat,X = x) ∧ (∃ y:Nat,Y = y):=⟨⟨X.toNat,by omega⟩,⟨Y.toNat,by omega⟩⟩
 have hx:x < w:=by omega
 have hy:y < h:=by omega
 have hlt:y * w + x < w * h:=(place_lt hx hy)
 have h49:w * h ≤ 7 * 7:=Nat.mul_le_mul hw.2 hh.2
 have e1:(y:Int) * (w:Int) = ((y * w:Nat):Int):=by rw [Int.natCast_mul]
 have e:wrap64 (wrap64 ((y:Int) * (w:Int)) + (x:Int)) = ((y * w + x:Nat):Int):=by
  have e0:wrap64 ((y * w:Nat):Int) = ((y * w:Nat):Int):=w64 o_m o_m
  rw [e1,e0,← Int.natCast_add];exact w64 o_m o_m
 rw [e,if_pos o_m,if_pos o_m,Int.toNat_natCast,Int.toNat_natCast]
 unfold rd openAt isOpenC
 rw [Int.toNat_natCast]
 by_cases h35:cs.getD (y * w + x) 0 = 35
 rotate_left
 ·rw [if_neg h35,if_pos (by simpa using h35)]
 rw [if_pos h35,h35,if_neg d_c]
theorem tiAhead_eq {w h:Nat} (hw:1 ≤ w ∧ w ≤ 7) (hh:1 ≤ h ∧ h ≤ 7) {cs:List Int} (hl:cs.length = w * h) {i d:Nat} (hi:i < w * h) (hd:d < 4):spec_tiAhead.f w h cs i d = some (aheadI w h cs i d):=by
 have h49:w * h ≤ 7 * 7:=Nat.mul_le_mul hw.2 hh.2
 have e1:Int.tdiv (i:Int) (w:Int) = ((i / w:Nat):Int):=rfl
 have e2:Int.tmod (i:Int) (w:Int) = ((i % w:Nat):Int):=rfl
 have b1:i / w ≤ i:=Nat.div_le_self _ _
 have b2:i % w ≤ i:=Nat.mod_le _ _
 unfold spec_tiAhead.f aheadI
 rw [if_neg o_m,e1,e2]
 generalize i / w = y at *
 generalize i % w = x at *
 rw [w64 (n:=(y:Int)) o_m o_m,w64 (n:=(y:Int) - 1) o_m o_m,w64 (n:=(y:Int) + 1) o_m o_m,w64 (n:=(x:Int) - 1) o_m o_m,w64 (n:=(x:Int) + 1) o_m o_m]
 rcases dir4 hd with rfl | rfl | rfl | rfl
 ·rw [if_pos (by rfl)]
  exact look_eq hw hh hl (x:Int) ((y:Int) - 1)
 ·rw [if_neg d_c,if_pos (by rfl)]
  exact look_eq hw hh hl ((x:Int) + 1) (y:Int)
 ·rw [if_neg d_c,if_neg d_c,if_pos (by rfl)]
  exact look_eq hw hh hl (x:Int) ((y:Int) + 1)
 ·rw [if_neg d_c,if_neg d_c,if_neg d_c]
  exact look_eq hw hh hl ((x:Int) - 1) (y:Int)
def nxtI (w h d:Nat) (cs:List Int) (a b:Nat):Int:=if (decide (b + 1 < lnK w h d) && openAt cs (pos w h d a (b + 1))) = true then (pos w h d a (b + 1):Int) else -1
def restD (w h d:Nat) (cs:List Int) (a b:Nat):List Nat:=((lineD w h d a).drop b).takeWhile (openAt cs)
theorem lineD_length (w h d a:Nat):(lineD w h d a).length = lnK w h d:=by simp [lineD]
theorem restD_end {w h d a b:Nat} {cs:List Int} (hb:lnK w h d ≤ b):restD w h d cs a b = []:=by
 unfold restD;rw [List.drop_eq_nil_of_le (by rw [lineD_length];exact hb)];rfl
theorem restD_cons {w h d a b:Nat} {cs:List Int} (hb:b < lnK w h d):restD w h d cs a b = if openAt cs (pos w h d a b) = true then pos w h d a b :: restD w h d cs a (b + 1) else []:=by
 unfold restD
 rw [List.drop_eq_getElem_cons (by rw [lineD_length];exact hb),List.takeWhile_cons]
 have e:(lineD w h d a)[b]'(by rw [lineD_length];exact hb) = pos w h d a b:=by simp [lineD]
 rw [e]
theorem restD_length (w h d a b:Nat) (cs:List Int):(restD w h d cs a b).length ≤ lnK w h d:=by
 unfold restD
 exact Nat.le_trans (List.takeWhile_sublist _).length_le (by rw [List.length_drop,lineD_length];omega)
theorem lnK_le {w h d:Nat} (hw:w ≤ 7) (hh:h ≤ 7):lnK w h d ≤ 7:=by unfold lnK;split <;> omega
theorem opp_eq {d:Nat} (hd:d < 4):Int.tmod (wrap64 ((d:Int) + 2)) 4 = (((d + 2) % 4:Nat):Int):=by
 rw [w64 o_m o_m];rfl
section
variable {w h d:Nat} {cs:List Int} (hw:1 ≤ w ∧ w ≤ 7) (hh:1 ≤ h ∧ h ≤ 7) (hl:cs.length = w * h) (hd:d < 4)
include hw hh hl hd
theorem follow_l1 (x5:List (List Int)) (x13:List Int) (x14 x15:Int) (r:List (List Int)) {a:Nat} (ha:a < lnM w h d):∀ (n b:Nat) (x8:List Nat),b + n + 1 = lnK w h d → x8.length ≤ b + 1 →
  Ev (fun k=>spec_tiStretches.l2 k d x5 (castsI (x8 ++ restD w h d cs a (b + 1))) 0 x13 x14 x15 w h cs) r →
  Ev (fun k=>spec_tiStretches.l1 k d x5 (castsI x8) (nxtI w h d cs a b) x13 x14 x15 w h cs) r
 | 0,b,x8,hb,hx,hr=>by
  have hneg:nxtI w h d cs a b = -1:=by unfold nxtI;rw [decide_eq_false o_m,Bool.false_and,if_neg Bool.false_ne_true]
  rw [restD_end o_m,List.append_nil] at hr
  rw [hneg]
  exact Ev.step (fun k=>by rw [spec_tiStretches.l1,if_neg o_m]) hr
 | n + 1,b,x8,hb,hx,hr=>by
  have hK:=lnK_le (d:=d) hw.2 hh.2
  rw [restD_cons o_m] at hr
  unfold nxtI
  by_cases ho:openAt cs (pos w h d a (b + 1)) = true
  rotate_left
  ·rw [if_neg ho,List.append_nil] at hr
   rw [show openAt cs (pos w h d a (b + 1)) = false by simpa using ho,Bool.and_false,if_neg Bool.false_ne_true]
   exact Ev.step (fun k=>by rw [spec_tiStretches.l1,if_neg o_m]) hr
  rw [if_pos ho] at hr
  rw [decide_eq_true (show b + 1 < lnK w h d by omega),ho,Bool.true_and,if_pos rfl]
  have hp:=(pos_lt hd ha (show b + 1 < lnK w h d by omega)).2.2
  have hA:=tiAhead_eq hw hh hl hp (d:=(d + 2) % 4) o_m
  rw [back_pos hd ha (show b + 1 < lnK w h d by omega)] at hA
  refine Ev.step (fun k=>?_) (follow_l1 x5 x13 x14 x15 r ha n (b + 1) (x8 ++ [pos w h d a (b + 1)]) o_m (by rw [List.length_append];simp;omega) (by rw [List.append_assoc];exact hr))
  rw [spec_tiStretches.l1,if_pos o_m,if_pos (by rw [castsI_length];omega),opp_eq hd,hA,Option.bind_some,casts_app,casts_one];rfl
end
theorem rows_at (L:List (List Nat)) (i:Nat) (h:i < L.length):rd_L3 (L.map castsI) (i:Int) = castsI (L[i]'h):=by
 unfold rd_L3
 rw [Int.toNat_natCast,List.getD_eq_getElem?_getD,List.getElem?_map,List.getElem?_eq_getElem h];rfl
theorem place_l2 {w h d:Nat} {cs:List Int} (x13:List Int) (x14 x15:Int) (r:List (List Int)) (st:List Nat) (hne:st ≠ []) (hst:st.length < 1000000):∀ (rest pre:List (List Nat)),pre.length + rest.length < 1000000 → (∀ y ∈ rest,y ≠ [] ∧ y.length < 1000000) →
  Ev (fun k=>spec_tiStretches.l0 k d ((pre ++ insK st rest).map castsI) x13 x14 (wrap64 (x15 + 1)) w h cs) r →
  Ev (fun k=>spec_tiStretches.l2 k d ((pre ++ rest).map castsI) (castsI st) (pre.length:Int) x13 x14 x15 w h cs) r
 | [],pre,hlen,_,hr=>by
  refine Ev.step (fun k=>?_) hr
  have e1:((pre ++ []).map castsI).take ((pre.length:Int)).toNat = pre.map castsI:=by rw [List.append_nil,Int.toNat_natCast,List.take_of_length_le (by simp)]
  have e2:((pre ++ []).map castsI).drop ((pre.length:Int)).toNat = []:=by rw [List.append_nil,Int.toNat_natCast,List.drop_eq_nil_of_le (by simp)]
  simp only [List.length_nil,Nat.add_zero] at hlen
  rw [spec_tiStretches.l2,if_neg (by simp),Option.bind_some,if_pos o_m,if_pos (by simp),e1,e2,Option.bind_some,if_pos (by simp;omega),Option.bind_some,if_pos (by simp;omega),Option.bind_some,Option.bind_some,if_pos (by simp;omega)]
  simp [insK]
 | y :: ys,pre,hlen,hall,hr=>by
  have hL:((pre ++ y :: ys).map castsI).length = pre.length + ys.length + 1:=by simp;omega
  simp only [List.length_cons] at hlen
  have hy:=hall y List.mem_cons_self
  have hrow:rd_L3 ((pre ++ y :: ys).map castsI) (pre.length:Int) = castsI y:=by
   rw [rows_at _ _ (by simp)]
   congr 1
   simp
  have hstep:∀ k,spec_tiStretches.l2 (k + 1) d ((pre ++ y :: ys).map castsI) (castsI st) (pre.length:Int) x13 x14 x15 w h cs =
    (spec_tiFirst.f k (castsI y)).bind fun t113=>(spec_tiFirst.f k (castsI st)).bind fun t114=>if t113 < t114 then spec_tiStretches.l2 k d ((pre ++ y :: ys).map castsI) (castsI st) ((pre.length + 1:Nat):Int) x13 x14 x15 w h cs else spec_tiStretches.l0 k d ((pre ++ (st :: y :: ys)).map castsI) x13 x14 (wrap64 (x15 + 1)) w h cs:=by
   intro k
   have e1:((pre ++ y :: ys).map castsI).take ((pre.length:Int)).toNat = pre.map castsI:=by rw [Int.toNat_natCast,List.map_append,List.take_left' (by simp)]
   have e2:((pre ++ y :: ys).map castsI).drop ((pre.length:Int)).toNat = (y :: ys).map castsI:=by rw [Int.toNat_natCast,List.map_append,List.drop_left' (by simp)]
   rw [spec_tiStretches.l2,if_pos o_m,if_pos o_m,hrow]
   congr 1
   funext t113
   congr 1
   funext t114
   by_cases ht:t113 < t114
   ·rw [if_pos ht,if_pos ht,w64 o_m o_m];rfl
   rw [if_neg ht,if_neg ht,Option.bind_some,if_pos o_m,e1,e2,Option.bind_some,if_pos (by simp;omega),Option.bind_some,if_pos (by simp;omega),Option.bind_some,Option.bind_some,if_pos (by simp;omega)]
   simp
  refine Ev.step hstep (Ev.bind (tiFirst_ev hy.1 hy.2) (Ev.bind (tiFirst_ev hne hst) ?_))
  unfold insK at hr
  by_cases hlt:leastL y < leastL st
  rotate_left
  ·rw [if_neg hlt] at hr
   exact Ev.congr (fun k=>if_neg o_m) hr
  rw [if_pos hlt] at hr
  refine Ev.congr (fun k=>if_pos o_m) ?_
  have:=place_l2 x13 x14 x15 r st hne hst ys (pre ++ [y]) (by simp;omega) (fun z hz=>hall z (List.mem_cons_of_mem _ hz)) (by rw [List.append_assoc];exact hr)
  rw [List.append_assoc,List.length_append] at this
  exact this
theorem tail_head {w h d i:Nat} {cs:List Int} (hd:d < 4) (hi:i < w * h) (ho:openAt cs i = true):tailD w h d cs i = i :: restD w h d cs (lnA w d i) (lnB w h d i + 1):=by
 obtain ⟨h1,h2,h3⟩:=inv_pos hd hi
 show restD w h d cs (lnA w d i) (lnB w h d i) = _
 rw [restD_cons h2,h3,if_pos ho]
section
variable {w h d:Nat} {cs:List Int} (hw:1 ≤ w ∧ w ≤ 7) (hh:1 ≤ h ∧ h ≤ 7) (hl:cs.length = w * h) (hd:d < 4)
include hw hh hl hd
theorem cells_l0:∀ (n i:Nat) (out:List (List Nat)),i + n = w * h → out.length ≤ i → (∀ y ∈ out,y ≠ [] ∧ y.length < 1000000) →
  Ev (fun k=>spec_tiStretches.l0 k d (out.map castsI) cs (cs.length:Int) i w h cs) (((((List.range' i n).filter (endD w h d cs)).map (tailD w h d cs)).foldl (fun o x=>insK x o) out).map castsI)
 | 0,i,out,hi,ho,hall=>Ev.step (fun k=>by rw [spec_tiStretches.l0,if_neg o_m];rfl) (Ev.now _)
 | n + 1,i,out,hi,ho,hall=>by
  have h49:w * h ≤ 7 * 7:=Nat.mul_le_mul hw.2 hh.2
  have hil:i < w * h:=by omega
  have hK:=lnK_le (d:=d) hw.2 hh.2
  obtain ⟨q1,q2,q3⟩:=inv_pos hd hil
  have HWR:Aside0 (wrap64 ((i:Int) + 1) = ((i + 1:Nat):Int)):=⟨by rw [w64 o_m o_m];rfl⟩
  have hrd:rd cs (i:Int) = cs.getD i 0:=by unfold rd;rw [Int.toNat_natCast]
  have hend:=end_ahead hd hil cs
  have hA:=tiAhead_eq hw hh hl hil hd
  have hB:=tiAhead_eq hw hh hl hil (d:=(d + 2) % 4) o_m
  have hback:=back_pos hd q1 q2 cs
  rw [q3] at hback
  rw [hback] at hB
  have hskip:endD w h d cs i = false → Ev (fun k=>spec_tiStretches.l0 k d (out.map castsI) cs (cs.length:Int) ((i + 1:Nat):Int) w h cs) (((((List.range' i (n + 1)).filter (endD w h d cs)).map (tailD w h d cs)).foldl (fun o x=>insK x o) out).map castsI):=fun he=>by
   rw [List.range'_succ,List.filter_cons,he,if_neg Bool.false_ne_true]
   exact cells_l0 n (i + 1) out o_m o_m hall
  by_cases h35:cs.getD i 0 = 35
  ·have hop:openAt cs i = false:=by unfold openAt isOpenC;rw [h35];rfl
   have he:endD w h d cs i = false:=by rw [hend,hop,Bool.false_and]
   refine Ev.step (f:=fun k=>spec_tiStretches.j1 k d (out.map castsI) i cs (cs.length:Int) i true w h cs) (fun k=>by rw [spec_tiStretches.l0,if_pos o_m,if_pos o_m,if_pos o_m,hrd,if_pos h35]) ?_
   exact Ev.step (fun k=>by rw [spec_tiStretches.j1,if_pos rfl,HWR.out]) (hskip he)
  have hop:openAt cs i = true:=by unfold openAt isOpenC;simpa using h35
  rw [hop,Bool.true_and] at hend
  refine Ev.step (f:=fun k=>spec_tiStretches.j1 k d (out.map castsI) i cs (cs.length:Int) i (decide (aheadI w h cs i d ≥ 0)) w h cs) (fun k=>by rw [spec_tiStretches.l0,if_pos o_m,if_pos o_m,if_pos o_m,hrd,if_neg h35,hA,Option.bind_some]) ?_
  by_cases hah:aheadI w h cs i d ≥ 0
  ·have he:endD w h d cs i = false:=by rw [hend];exact decide_eq_false o_m
   rw [decide_eq_true hah]
   exact Ev.step (fun k=>by rw [spec_tiStretches.j1,if_pos rfl,HWR.out]) (hskip he)
  have he:endD w h d cs i = true:=by rw [hend];exact decide_eq_true o_m
  rw [decide_eq_false hah]
  refine Ev.step (f:=fun k=>spec_tiStretches.l1 k d (out.map castsI) (castsI [i]) (nxtI w h d cs (lnA w d i) (lnB w h d i)) cs (cs.length:Int) i w h cs) (fun k=>by
   rw [spec_tiStretches.j1,if_neg Bool.false_ne_true,opp_eq hd,hB,Option.bind_some];rfl) ?_
  refine follow_l1 hw hh hl hd (out.map castsI) cs (cs.length:Int) i _ q1 (lnK w h d - 1 - lnB w h d i) (lnB w h d i) [i] o_m (by simp) ?_
  have ht:=tail_head hd hil hop
  rw [show [i] ++ restD w h d cs (lnA w d i) (lnB w h d i + 1) = tailD w h d cs i from ht.symm]
  have htl:(tailD w h d cs i).length < 1000000:=by
   have:=restD_length w h d (lnA w d i) (lnB w h d i + 1) cs
   rw [ht,List.length_cons];omega
  have htn:tailD w h d cs i ≠ []:=by rw [ht];exact List.cons_ne_nil _ _
  refine place_l2 (d:=d) cs (cs.length:Int) i _ (tailD w h d cs i) htn htl out [] (by simp;omega) hall ?_
  rw [List.nil_append,HWR.out,List.range'_succ,List.filter_cons,he,if_pos rfl,List.map_cons,List.foldl_cons]
  have hp:=insK_perm (tailD w h d cs i) out
  refine cells_l0 n (i + 1) (insK (tailD w h d cs i) out) o_m (by rw [hp.length_eq,List.length_cons];omega) (fun y hy=>?_)
  rcases List.mem_cons.1 (hp.mem_iff.1 hy) with rfl | hy
  ·exact ⟨htn,htl⟩
  ·exact hall y hy
theorem tiStretches_ev:Ev (fun k=>spec_tiStretches.f k w h cs d) ((strD w h d cs).map castsI):=by
 have h0:=cells_l0 hw hh hl hd (w * h) 0 [] o_m (by simp) (fun y hy=>by cases hy)
 rw [← List.range_eq_range'] at h0
 exact h0
end
end Go.Proofs.YtldhkbiomingbaaGreatDoor

namespace Go.Proofs.YtldhkbiomingbaaGreatDoor
open Go.RowKit Go.YW.PrintWords Go.YW.PrintLast Go.YW.PrintMore Go.Lib Go.Proofs.YtldhkbiomingbaaGreatDoor.F
def gridI (a0 a1:Int) (l:List Int):Prop:=(1 ≤ a0 ∧ a0 ≤ 7) ∧ (1 ≤ a1 ∧ a1 ≤ 7) ∧ l.length = a0.toNat * a1.toNat
instance (a0 a1:Int) (l:List Int):Decidable (gridI a0 a1 l):=by unfold gridI;exact inferInstance
theorem gridI_nat {w h:Nat} {cs:List Int} (hw:1 ≤ w ∧ w ≤ 7) (hh:1 ≤ h ∧ h ≤ 7) (hl:cs.length = w * h):gridI w h cs:=⟨by omega,by omega,by rw [Int.toNat_natCast,Int.toNat_natCast];exact hl⟩
theorem strD_facts {w h d:Nat} {cs:List Int} (hw:1 ≤ w ∧ w ≤ 7) (hh:1 ≤ h ∧ h ≤ 7) (hl:cs.length = w * h) (hd:d < 4) :
  (0 < cs.length ∧ cs.length < 65536) ∧ (∀ st ∈ strD w h d cs,∀ i ∈ st,i < cs.length) ∧ (strD w h d cs).flatten.length < 65536 ∧ (strD w h d cs).length < 65536 ∧ (∀ st ∈ strD w h d cs,st.length < 65536):=by
 have h49:w * h ≤ 7 * 7:=Nat.mul_le_mul hw.2 hh.2
 have h1:0 < w * h:=Nat.mul_pos o_m o_m
 have hf:(strD w h d cs).flatten.length ≤ w * h:=by
  rw [(strD_cells hd cs).length_eq]
  exact Nat.le_trans (List.length_filter_le _ _) (by rw [List.length_range];exact Nat.le_refl _)
 have hne:=strD_ne hd (w:=w) (h:=h) (cs:=cs)
 have len:∀ S:List (List Nat),(∀ st ∈ S,st ≠ []) → S.length ≤ S.flatten.length ∧ ∀ st ∈ S,st.length ≤ S.flatten.length:=fun S=>by
  induction S with
  | nil=>intro _;exact ⟨Nat.le_refl _,fun st h=>by cases h⟩
  | cons a S ih =>
   intro hs
   obtain ⟨i1,i2⟩:=ih (fun st h=>hs st (List.mem_cons_of_mem _ h))
   have ha:0 < a.length:=List.length_pos_iff.2 (hs a List.mem_cons_self)
   rw [List.flatten_cons,List.length_append,List.length_cons]
   refine ⟨by omega,fun st h=>?_⟩
   rcases List.mem_cons.1 h with rfl | h
   ·omega
   ·have:=i2 st h;omega
 obtain ⟨l1,l2⟩:=len _ hne
 refine ⟨⟨by rw [hl];exact h1,by rw [hl];omega⟩,fun st hs i hi=>by rw [hl];exact (strD_Str hd cs).lt st hs i hi,by omega,by omega,fun st hs=>?_⟩
 have:=l2 st hs
 omega
def spec_tiTilt.f (a0 a1:Int) (l:List Int) (d:Int):Option (Int × Int × List Int):=if gridI a0 a1 l ∧ 0 ≤ d ∧ d < 4 then some (a0,a1,tiltD a0.toNat a1.toNat d.toNat l) else none
theorem spec_tiTilt_eq {w h d:Nat} {cs:List Int} (hw:1 ≤ w ∧ w ≤ 7) (hh:1 ≤ h ∧ h ≤ 7) (hl:cs.length = w * h) (hd:d < 4):spec_tiTilt.f w h cs d = some ((w:Int),(h:Int),tiltD w h d cs):=if_pos ⟨gridI_nat hw hh hl,by omega,by omega⟩
theorem spec_tiTilt.calls (a0_0 a0_1:Int) (A0_2:Option Addr) (c0_2:Nat) (l0_2:List Int) (a1:Int) (r1 r2:Int) (r3:List Int) (w:World) (hr0_2:Kd.C (Kd.int .u8) w A0_2 l0_2.length l0_2) (hc0_2:l0_2.length ≤ c0_2) (h:spec_tiTilt.f a0_0 a0_1 l0_2 a1 = some (r1,r2,r3)) :
  Calls Tryz.prog 100 #[.agg #[.int .i64 a0_0,.int .i64 a0_1,.slice A0_2 l0_2.length c0_2],.int .i64 a1] w fun e w'=>∃ v2_:Value,e = .returned (.agg #[.int .i64 r1,.int .i64 r2,v2_]) ∧ Kd.R (Kd.int .u8) 5 w' w.heap.size (fun _=>True) v2_ r3 ∧ Below w.heap.size w w':=by
 unfold spec_tiTilt.f at h
 split at h
 case isFalse=>cases h
 rename_i hc
 obtain ⟨⟨hw,hh,hl⟩,hd0,hd4⟩:=hc
 injection h with h
 injection h with h1 h
 injection h with h2 h3
 subst h1 h2 h3
 obtain ⟨W,rfl⟩:∃ n:Nat,a0_0 = n:=⟨a0_0.toNat,by omega⟩
 obtain ⟨H,rfl⟩:∃ n:Nat,a0_1 = n:=⟨a0_1.toNat,by omega⟩
 obtain ⟨d,rfl⟩:∃ n:Nat,a1 = n:=⟨a1.toNat,by omega⟩
 simp only [Int.toNat_natCast] at hl ⊢
 have hw':1 ≤ W ∧ W ≤ 7:=by omega
 have hh':1 ≤ H ∧ H ≤ 7:=by omega
 have hd':d < 4:=by omega
 obtain ⟨f1,f2,f3,f4,f5⟩:=strD_facts hw' hh' hl hd'
 obtain ⟨k,hk⟩:=Ev.rounds (tiStretches_ev hw' hh' hl hd')
 refine tiTilt_calls W H d A0_2 c0_2 l0_2 (strD W H d l0_2) w hr0_2 hc0_2 f1 f2 f4 f5 (fun W' hW=>?_)
 exact spec_tiStretches.calls k W H A0_2 c0_2 l0_2 d _ W' (Kd.C_below hr0_2 hW) hc0_2 hk
end Go.Proofs.YtldhkbiomingbaaGreatDoor
