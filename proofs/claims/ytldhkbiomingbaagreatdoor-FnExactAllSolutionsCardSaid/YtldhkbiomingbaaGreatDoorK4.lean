/- The proof that the law's row holds, part 4: the kit's words, the printed walks and the plain law. No conditions beyond the card's own. -/
import Derived.Deep.RegionHeld3
import Derived.Test.YtldhkbiomingbaaGreatDoorK0
import Derived.Test.YtldhkbiomingbaaGreatDoorK1
import Derived.Test.YtldhkbiomingbaaGreatDoorK2
import Derived.Test.YtldhkbiomingbaaGreatDoorK3
set_option linter.unusedVariables false
set_option linter.unusedSimpArgs false
set_option maxHeartbeats 8000000
set_option maxRecDepth 100000
namespace Go.Proofs.YtldhkbiomingbaaGreatDoor.F
open Go.Proofs.YtldhkbiomingbaaGreatDoor
open Go.RowKit Go.YW.PrintWords Go.YW.PrintLast Go.YW.PrintMore Go.Lib
attribute [local go_sem] max2_int min2_int
def AllAns (t:ByteArray) (v:Value) (w':World) (base:Nat):Prop :=
 (srch t = none ∧ v = .slice none 0 0) ∨ ∃ w h s,srch t = some (w,h,s) ∧ Kd.R (ptrK 77 nodeK) 73 w' base (fun _=>True) v (nodesOf w h s)
theorem Nodes.one {tN:TypeId} {W:World} {base p:Nat} {g:Value} {n:Node} (hn:n.next = []) (hp:base ≤ p) (hb:W.heap[p]? = some (.cells (NodeM.cells ⟨p,g,.slice none 0 0,n⟩) tN (0,0))) (hg:Kd.R (Kd.int .u8) 5 W base (fun _=>True) g n.grid):Nodes tN W base [⟨p,g,.slice none 0 0,n⟩] :=
 ⟨fun q hq=>by rw [List.mem_singleton.1 hq];exact ⟨hp,hb,hg,by show Kd.R (Kd.int .i64) _ _ _ _ (.slice none 0 0) n.next;rw [hn];exact Kd.R_nil _ _ _ _ _⟩,by simp,by simp⟩
theorem R_off3 {W:World} {base b:Nat} {v:Value} {l:List Int} {cells:Array Value} {t:TypeId} (h:Kd.R (Kd.int .u8) 5 W base (fun _=>True) v l) (hb:W.heap[b]? = some (.cells cells t (0,0))) (ht:5 ≠ t) (u0 u1 u2:Value) :
  Kd.R (Kd.int .u8) 5 (((W.setCell ⟨b,0,none⟩ u0).setCell ⟨b,1,none⟩ u1).setCell ⟨b,2,none⟩ u2) base (fun _=>True) v l :=
 R_off (p:=⟨b,2,none⟩) rfl (R_off (p:=⟨b,1,none⟩) rfl (R_off (p:=⟨b,0,none⟩) rfl h hb ht u0) (blk_set hb 0 u0) ht u1) (blk_set (blk_set hb 0 u0) 1 u1) ht u2
theorem blk_set3 {W:World} {b:Nat} {x0 x1 x2:Value} {t:TypeId} (hb:W.heap[b]? = some (.cells #[x0,x1,x2] t (0,0))) (u0 u1 u2:Value) :
  (((W.setCell ⟨b,0,none⟩ u0).setCell ⟨b,1,none⟩ u1).setCell ⟨b,2,none⟩ u2).heap[b]? = some (.cells #[u0,u1,u2] t (0,0)):=(blk_set (blk_set (blk_set hb 0 u0) 1 u1) 2 u2).trans rfl
theorem below_set3 {w W:World} {b base:Nat} (h:Below base w W) (hb:base ≤ b) (u0 u1 u2:Value):Below base w (((W.setCell ⟨b,0,none⟩ u0).setCell ⟨b,1,none⟩ u1).setCell ⟨b,2,none⟩ u2) :=
 ((h.setCell (p:=⟨b,0,none⟩) hb u0).setCell (p:=⟨b,1,none⟩) hb u1).setCell (p:=⟨b,2,none⟩) hb u2
theorem drop_dirs {d:Nat} (hd:d < 4):([0,1,2,3]:List Nat).drop d = d :: ([0,1,2,3]:List Nat).drop (d + 1):=by
 rcases (by omega:d = 0 ∨ d = 1 ∨ d = 2 ∨ d = 3) with rfl | rfl | rfl | rfl <;> rfl
theorem seeAll_found {w h k d:Nat} {s:RS} {Q:List Int} {P:List Nat} {c:List Int} (hd:d < 4) (hc:tiltD w h d (s.T.getD k []) = c) (hf:findT s.T c < s.T.length) :
  seeAllQ w h k (([0,1,2,3]:List Nat).drop d) s Q P = seeAllQ w h k (([0,1,2,3]:List Nat).drop (d + 1)) s (addW s.F k Q (findT s.T c)) (P ++ [findT s.T c]):=by
 rw [drop_dirs hd]
 show (seeQ w h k d s Q).bind _ = _
 have e:seeQ w h k d s Q = some (s,addW s.F k Q (findT s.T c),findT s.T c):=by
  unfold seeQ seeD
  simp only [hc]
  rw [if_pos hf]
  show some (s,addW s.F k (if s.T.length < s.T.length then Q ++ [0] else Q) (findT s.T c),findT s.T c) = _
  rw [if_neg (Nat.lt_irrefl _)]
 rw [e];rfl
theorem seeAll_full {w h k d:Nat} {s:RS} {Q:List Int} {P:List Nat} {c:List Int} (hd:d < 4) (hc:tiltD w h d (s.T.getD k []) = c) (hf:¬ findT s.T c < s.T.length) (h3:s.T.length = 300) :
  seeAllQ w h k (([0,1,2,3]:List Nat).drop d) s Q P = none:=by
 rw [drop_dirs hd]
 show (seeQ w h k d s Q).bind _ = _
 have e:seeQ w h k d s Q = none:=by
  unfold seeQ seeD
  simp only [hc]
  rw [if_neg hf,if_pos h3];rfl
 rw [e];rfl
def pushD (s:RS) (k d:Nat) (c:List Int):RS:={ s with T:=s.T ++ [c],F:=s.F ++ [s.F.getD k 0 + 1],W:=s.W ++ [s.W.getD k [] ++ [d]],B:=s.B ++ [(k,d)] }
theorem seeD_new {w h k d:Nat} {s:RS} {c:List Int} (hc:tiltD w h d (s.T.getD k []) = c) (hf:¬ findT s.T c < s.T.length) (h3:¬ s.T.length = 300):seeD w h k d s = some (pushD s k d c,s.T.length):=by
 unfold seeD pushD
 simp only [hc]
 rw [if_neg hf,if_neg h3]
theorem seeAll_new {w h k d:Nat} {s:RS} {Q:List Int} {P:List Nat} {c:List Int} (hd:d < 4) (hc:tiltD w h d (s.T.getD k []) = c) (hf:¬ findT s.T c < s.T.length) (h3:¬ s.T.length = 300) :
  seeAllQ w h k (([0,1,2,3]:List Nat).drop d) s Q P = seeAllQ w h k (([0,1,2,3]:List Nat).drop (d + 1)) (pushD s k d c) (addW (pushD s k d c).F k (Q ++ [0]) s.T.length) (P ++ [s.T.length]):=by
 rw [drop_dirs hd]
 show (seeQ w h k d s Q).bind _ = _
 have e:seeQ w h k d s Q = some (pushD s k d c,addW (pushD s k d c).F k (Q ++ [0]) s.T.length,s.T.length):=by
  unfold seeQ
  rw [seeD_new hc hf h3]
  show some (pushD s k d c,addW (pushD s k d c).F k (if s.T.length < (s.T ++ [c]).length then Q ++ [0] else Q) s.T.length,s.T.length) = _
  rw [if_pos (show s.T.length < (s.T ++ [c]).length by simp)]
 rw [e];rfl
theorem infoP:(Tryz.prog.info? 73).map (fun i=>(i.zero,i.size,i.bytes)) = some (some (.pointer none),1,8):=by kernel_rfl
theorem map_p_set {L:List NodeM} {i:Nat} {hi:i < L.length} {g x:Value} {n:Node}:(L.set i ⟨(L[i]'hi).p,g,x,n⟩).map NodeM.p = L.map NodeM.p:=by
 rw [List.map_set]
 apply List.ext_getElem (by simp)
 intro j h1 h2
 rw [List.getElem_set]
 split
 ·subst_vars;simp
 ·rfl
theorem far_le {w h:Nat} {cs:List Int} {s:RS} (o:RS.Ok w h cs s):∀ {i:Nat},i < s.T.length → s.F.getD i 0 ≤ i:=by
 have h1:∀ n i,i ≤ n → i < s.T.length → (s.W.getD i []).length ≤ i:=fun n=>by
  induction n with
  | zero =>
   intro i hi hl
   obtain rfl:i = 0:=by omega
   rw [o.first];exact Nat.zero_le _
  | succ n ih =>
   intro i hi hl
   by_cases h0:i = 0
   ·subst h0;rw [o.first];exact Nat.zero_le _
   obtain ⟨b1,_,b3⟩:=o.back i hl o_m
   have:=ih (s.B.getD i (0,0)).1 o_m o_m
   rw [b3,List.length_append,List.length_singleton];omega
 intro i hi
 rw [← o.far i hi]
 exact h1 i i (Nat.le_refl _) hi
theorem reAll_calls (t:ByteArray) (b:Bool) (hb:(srch t).isSome = b) (w:World) :
  Calls Tryz.prog 72 #[.string t] w fun e w'=>∃ v,e = .returned (.tuple #[v,.bool b]) ∧ AllAns t v w' w.heap.size ∧ Below w.heap.size w w':=by
 have HBB:=am hb
 clear hb
 obtain ⟨K,hK⟩:=spec_tyRead_ev t
 have hread:=hK K (Nat.le_refl _)
 have HB:=am (Below.refl w.heap.size w)
 cases hg:tyGrid (bytesOf t) with
 | none =>
  rw [hg] at hread
  have HS:=am (show srch t = none by unfold srch;rw [hg])
  have HRD:=am hread
  obtain rfl:false = b:=by rw [← HBB.out,HS.out];rfl
  clear hread hK hg
  go_enter Tryz.func72,Tryz.ntmps72
  go_wp2_with (first
   | (go_at_call 63;refine (spec_tyRead.calls K t _ _ _ _ _ HRD.out).mono ?_;rintro e w1 ⟨v1,rfl,ho1,hb1⟩;obtain ⟨A1,c1,rfl⟩:=Kd.R_slice ho1;have HB1:=am hb1;clear ho1 hb1)
   | (refine bx 4 #[.int .i64 0,.int .i64 0,.slice none 0 0] 75 ?_;intro b4 hg4 w2 hbox2 hb2;have y0:w2.cell? ⟨b4,0,none⟩ = some (.int .i64 0):=(blk_cell hbox2 0).trans rfl;have y1:w2.cell? ⟨b4,1,none⟩ = some (.int .i64 0):=(blk_cell hbox2 1).trans rfl;have y2:w2.cell? ⟨b4,2,none⟩ = some (.slice none 0 0):=(blk_cell hbox2 2).trans rfl;have f0:=blk_frozen hbox2 0;have f1:=blk_frozen hbox2 1;have f2:=blk_frozen hbox2 2;have X2:=am hbox2;have G4:=am (show w.heap.size ≤ b4 by rw [hg4];exact HB1.out.size);have HB2:=am (below_step HB1.out hb2);clear hg4 hbox2 hb2)
   | ((with_reducible refine gate_store (t:=75) (p:=4) rfl ?_);refine store_event (t:=75) (p:=4) (v:=?vo) (w1:=(((w2.setCell ⟨b4,0,none⟩ (.int .i64 0)).setCell ⟨b4,1,none⟩ (.int .i64 0)).setCell ⟨b4,2,none⟩ (.slice A1 0 c1))) ?hg ?ho ?hn ?hr ?_;(case ho=>rfl);(case hg=>rfl);(case hn=>rfl);(case hr=>first | (go_simp;done) | (go_simp;rfl));intro w3 hw3;have HB3:=am (show Below w.heap.size w w3 by rw [hw3];exact below_set3 HB2.out G4.out _ _ _);clear hw3 y0 y1 y2 f0 f1 f2))
  go_ret2
  exact ⟨_,rfl,.inl ⟨HS.out,rfl⟩,HB3.out⟩
 | some g0 =>
  obtain ⟨gw,gh,cs⟩:=g0
  obtain ⟨vg,etx⟩:=textB_grid hg
  rw [hg] at hread
  have HS:=am (show srch t = (reachD gw gh cs).map fun s=>(gw,gh,s) by unfold srch;rw [hg])
  have HRD:=am hread
  have HV:=am vg
  have HT:=am etx
  clear hread hK hg vg etx
  go_enter Tryz.func72,Tryz.ntmps72
  go_wp2_with (first
   | (go_at_call 63;refine (spec_tyRead.calls K t _ _ _ _ _ HRD.out).mono ?_;rintro e w1 ⟨v1,rfl,ho1,hb1⟩;obtain ⟨A1,c1,rfl⟩:=Kd.R_slice ho1;have HO1:=am ho1;have HB1:=am hb1;clear ho1 hb1)
   | (refine bx 4 #[.int .i64 0,.int .i64 0,.slice none 0 0] 75 ?_;intro b4 hg4 w2 hbox2 hb2;have y0:w2.cell? ⟨b4,0,none⟩ = some (.int .i64 0):=(blk_cell hbox2 0).trans rfl;have y1:w2.cell? ⟨b4,1,none⟩ = some (.int .i64 0):=(blk_cell hbox2 1).trans rfl;have y2:w2.cell? ⟨b4,2,none⟩ = some (.slice none 0 0):=(blk_cell hbox2 2).trans rfl;have f0:=blk_frozen hbox2 0;have f1:=blk_frozen hbox2 1;have f2:=blk_frozen hbox2 2;have X2:=am hbox2;have G4:=am (show w.heap.size ≤ b4 by rw [hg4];exact HB1.out.size);have HB2:=am (below_step HB1.out hb2);have HO2:=am (Kd.R_below HO1.out hb2);clear hg4 hbox2 hb2 HO1)
   | ((with_reducible refine gate_store (t:=75) (p:=4) rfl ?_);refine store_event (t:=75) (p:=4) (v:=?vo) (w1:=(((w2.setCell ⟨b4,0,none⟩ (.int .i64 gw)).setCell ⟨b4,1,none⟩ (.int .i64 gh)).setCell ⟨b4,2,none⟩ (.slice A1 cs.length c1))) ?hg ?ho ?hn ?hr ?_;(case ho=>rfl);(case hg=>rfl);(case hn=>rfl);(case hr=>first | (go_simp;done) | (go_simp;rfl));intro w3 hw3;have HB3:=am (show Below w.heap.size w w3 by rw [hw3];exact below_set3 HB2.out G4.out _ _ _);have x3:w3.heap[b4]? = some (.cells #[.int .i64 gw,.int .i64 gh,.slice A1 cs.length c1] 75 (0,0)):=(by rw [hw3];exact blk_set3 X2.out _ _ _);have HO3:=am (show Kd.R (Kd.int .u8) 5 w3 w.heap.size (fun _=>True) (.slice A1 cs.length c1) cs by rw [hw3];exact R_off3 HO2.out X2.out d_c _ _ _);have z0:w3.cell? ⟨b4,0,none⟩ = some (.int .i64 gw):=(blk_cell x3 0).trans rfl;have z1:w3.cell? ⟨b4,1,none⟩ = some (.int .i64 gh):=(blk_cell x3 1).trans rfl;have z2:w3.cell? ⟨b4,2,none⟩ = some (.slice A1 cs.length c1):=(blk_cell x3 2).trans rfl;clear hw3 HO2 x3 y0 y1 y2 f0 f1 f2)
   | (refine bx 23 #[.int .i64 gw,.int .i64 gh,.slice A1 cs.length c1,.string t,.int .i64 0,.int .i64 1,.int .i64 (-1),.int .i64 0,.slice none 0 0] 77 ?_;intro b23 hg23 w5 hbox5 hb5;have X5:=am hbox5;have G23:=am (show w.heap.size ≤ b23 by rw [hg23];exact HB3.out.size);have HB5:=am (below_step HB3.out hb5);have HO5:=am (Kd.R_below HO3.out hb5);clear hg23 hbox5 hb5 HO3)
   | ((with_reducible refine gate_dst (N:=24) rfl ?_);refine Kd.R_lit ptrS w.heap.size 73 ?hg (N:=24) ?hd (xs:=([b23]:List Nat)) (inner:=[.pointer (some ⟨b23,0,none⟩)]) (ok:=fun _=>True) (okp:=fun _=>True) ?hr ?hp (fun _ hk=>hk) trivial HB5.out HB5.out.size (by simp) ?_;(case hd=>rfl);(case hg=>rfl);(case hr=>first | (go_simp;done) | (go_simp;rfl));(case hp=>exact (Reps.one (show Kd.M ptrS _ _ _ b23 [.pointer (some ⟨b23,0,none⟩)] from rfl) (Reps.none _ _)));intro v6 w6 ho6 hb6 hg6 hn6;have HO6:=am ho6;have HB6:=am hb6;have X6:=am ((hg6.block b23 (blk_lt X5.out) (by simp)).trans X5.out);have HR6:=am (Kd.R_grown HO5.out hg6 (fun _ _=>by simp));clear ho6 hb6 hg6 hn6 HO5 z0 z1 z2))
  have HA0:Aside0 (AllAt w w6 gw gh cs (RS.start cs) [1] [] [⟨b23,.slice A1 cs.length c1,.slice none 0 0,{ w:=gw,h:=gh,grid:=cs,text:=t,far:=0,words:=1,before:=-1,dir:=0,next:=[] }⟩] v6):=by
   refine ⟨RS.Ok.start HV.out,rfl,?_,Nodes.one rfl G23.out X6.out HR6.out,HO6.out,HB6.out⟩
   show [_] = [nodeF (txG gw gh) gw gh (RS.start cs) [1] [] 0]
   rw [← HT.out];rfl
  obtain ⟨R,hR⟩:∃ R,bfsQ gw gh 301 0 (RS.start cs) [1] = R:=⟨_,rfl⟩
  have HR0:=am hR
  clear hR HR6 HO6 X6 HB5 X5 HB3 HB2 HB1 G4 G23 X2 HRD HB
  go_loopw [6,7] (fun va6 va7 wr=>∃ (f k:Nat) (s:RS) (Q:List Int) (L:List NodeM),va7 = .int .i64 k ∧ s.N.length = k ∧ k ≤ s.T.length ∧ f + k = 301 ∧ Aside0 (bfsQ gw gh f k s Q = R) ∧ Aside0 (∀ l ∈ s.N,l.length = 4 ∧ ∀ k ∈ l,k < s.T.length) ∧ Aside0 (AllAt w wr gw gh cs s Q [] L va6)) (fun va6 va7 _=>301 - (intOf va7).toNat)
  case atStart=>exact ⟨301,0,_,_,_,rfl,rfl,Nat.zero_le _,rfl,HR0,⟨fun l hl=>by cases hl⟩,HA0⟩
  case round =>
   obtain ⟨f,k,s,Q,L,rfl,hk,hkT,hfk,HF,HNX,HA⟩:=hrel
   obtain ⟨bk,o,c,rfl,hc,hptr,hat⟩:=HA.out.opens
   by_cases hlt:k < s.T.length
   rotate_left
   ·have hge:¬ (k:Int) < (s.T.length:Int):=by omega
    obtain ⟨f',rfl⟩:∃ f',f = f' + 1:=⟨f - 1,by have:=HA.out.ok.most;omega⟩
    have hF:=HF.out
    unfold bfsQ at hF
    rw [if_neg hlt] at hF
    have hfin:bfsD gw gh 301 0 (RS.start cs) = some s:=by rw [← bfsQ_fst _ _ _ [1],HR0.out,← hF];rfl
    have hq:=reachQ_of HV.out (s:=s) hfin
    rw [HR0.out,← hF] at hq
    injection hq with hq
    injection hq with _ hq
    have HQ:=am hq
    have HSR:=am (show srch t = some (gw,gh,s) by rw [HS.out,show reachD gw gh cs = some s from hfin];rfl)
    obtain rfl:true = b:=by rw [← HBB.out,HSR.out];rfl
    clear hq hF hfin HF hat hptr
    go_wp2
    go_ret2
    exact ⟨_,rfl,.inr ⟨gw,gh,s,HSR.out,by have h:=HA.out.reads;rw [HQ.out] at h;exact h⟩,HA.out.bel⟩
   have hltI:(k:Int) < (s.T.length:Int):=by omega
   have hkL:k < L.length:=by rw [HA.out.len];exact hlt
   obtain ⟨f',rfl⟩:∃ f',f = f' + 1:=⟨f - 1,by have:=HA.out.ok.most;omega⟩
   have hp8:=hptr k hkL
   obtain ⟨p8,hp8e⟩:∃ p8,(L[k]'hkL).p = p8:=⟨_,rfl⟩
   rw [hp8e] at hp8
   have hF:=HF.out
   unfold bfsQ at hF
   rw [if_pos hlt] at hF
   have HP8:=am (show (L.map NodeM.p)[k]? = some p8 by rw [List.getElem?_map,List.getElem?_eq_getElem hkL,← hp8e];rfl)
   have HF2:=am hF
   have HC:=am hc
   have HFK:=am hfk
   have HKT:=am hlt
   have HNK:=am hk
   clear hF HF hptr hat hp8e hkL hlt hkT hfk hk hc
   go_wp2
   go_loopw [6,9] (fun va6 va9 wq=>∃ (d:Nat) (s':RS) (Q':List Int) (P:List Nat) (L':List NodeM),d ≤ 4 ∧ va9 = .int .i64 d ∧ P.length = d ∧ Aside0 (seeAllQ gw gh k ([0,1,2,3].drop d) s' Q' P = seeAllQ gw gh k [0,1,2,3] s Q []) ∧ Aside0 (s'.N = s.N ∧ k < s'.T.length ∧ s.T.length ≤ s'.T.length ∧ (∀ x ∈ P,x < s'.T.length)) ∧ Aside0 ((L'.map NodeM.p)[k]? = some p8) ∧ Aside0 (AllAt w wq gw gh cs s' Q' P L' va6)) (fun va6 va9 _=>4 - (intOf va9).toNat)
   case atStart=>exact ⟨0,s,Q,[],L,by omega,rfl,rfl,⟨rfl⟩,⟨rfl,HKT.out,Nat.le_refl _,fun x hx=>by cases hx⟩,HP8,HA⟩
   case round =>
    obtain ⟨d,s',Q',P,L',hd,rfl,hPl,HSB,HS',HP',HA'⟩:=hrel
    by_cases hd4:d < 4
    rotate_left
    ·have hge:¬ (d:Int) < 4:=by omega
     obtain rfl:d = 4:=by omega
     have hsb:=HSB.out
     rw [show ([0,1,2,3]:List Nat).drop 4 = [] from rfl] at hsb
     have hF2:=HF2.out
     rw [← hsb] at hF2
     have HF3:=am (show bfsQ gw gh f' (k + 1) { s' with N:=s'.N ++ [P] } Q' = R from hF2)
     have hw1:IntKind.i64.wrap ((k:Int) + 1) = ((k + 1:Nat):Int):=by rw [IntKind.wrap_i64];have:=HFK.out;omega
     have HPL:=am hPl
     clear hsb hF2 hPl
     go_wp2
     go_roundw
     case rel =>
      refine ⟨f',k + 1,{ s' with N:=s'.N ++ [P] },Q',L',by first | rfl | simp,?_,HS'.out.2.1,by have:=HFK.out;omega,HF3,⟨fun l hl=>?_⟩,⟨HA'.out.row' ?_⟩⟩
      ·show (s'.N ++ [P]).length = k + 1
       rw [List.length_append,HS'.out.1,HNK.out];rfl
      ·rcases List.mem_append.1 (show l ∈ s'.N ++ [P] from hl) with hl | hl
       ·rw [HS'.out.1] at hl
        obtain ⟨h1,h2⟩:=HNX.out l hl
        exact ⟨h1,fun x hx=>Nat.lt_of_lt_of_le (h2 x hx) HS'.out.2.2.1⟩
       ·rw [List.mem_singleton.1 hl];exact ⟨HPL.out,HS'.out.2.2.2⟩
      ·have o:=HA'.out.ok
       exact ⟨o.lF,o.lW,o.lB,o.most,o.pos,o.tray,o.nodup,o.dirs,o.far,o.run,o.back,o.first⟩
     case measure=>have:=HFK.out;simp [intOf];omega
    have hltI2:(d:Int) < 4:=by omega
    have hkL:k < L'.length:=by rw [HA'.out.len];exact HS'.out.2.1
    have hpk:(L'[k]'hkL).p = p8:=by
     have:=HP'.out
     rw [List.getElem?_map,List.getElem?_eq_getElem hkL] at this
     exact Option.some.inj this
    have hnode:=HA'.out.node hkL
    have hblk:=HA'.out.blk hkL
    have hgrid:=(HA'.out.nd.at_ _ (List.getElem_mem hkL)).grid
    rw [hpk] at hblk
    unfold NodeM.cells at hblk
    rw [hnode] at hblk hgrid
    obtain ⟨c0,hc0⟩:∃ c0,s'.T.getD k [] = c0:=⟨_,rfl⟩
    have vc0:Vg (gw,gh,c0):=by rw [← hc0];exact HA'.out.ok.tray _ (getD_mem HS'.out.2.1)
    obtain ⟨c1',hc1⟩:∃ c1,tiltD gw gh d c0 = c1:=⟨_,rfl⟩
    have vc1:Vg (gw,gh,c1'):=by rw [← hc1];exact tiltG_V vc0 hd4
    have hgrid':Kd.R (Kd.int .u8) 5 wr w.heap.size (fun _=>True) (L'[k]'hkL).g c0:=by rw [← hc0];exact hgrid
    obtain ⟨Ag,cg,hgv,hcg,hCg⟩:=Kd.R_reads hgrid'
    rw [hgv] at hblk
    have z0:wr.cell? ⟨p8,0,none⟩ = some (.int .i64 gw):=(blk_cell hblk 0).trans rfl
    have z1:wr.cell? ⟨p8,1,none⟩ = some (.int .i64 gh):=(blk_cell hblk 1).trans rfl
    have z2:wr.cell? ⟨p8,2,none⟩ = some (.slice Ag c0.length cg):=(blk_cell hblk 2).trans rfl
    have HT0:=am (spec_tiTilt_eq ⟨vc0.w1,vc0.w7⟩ ⟨vc0.h1,vc0.h7⟩ vc0.len hd4)
    obtain ⟨K2,hK2⟩:=spec_text_ev (w:=gw) (h:=gh) (cs:=c1') (by have:=vc1.w7;simp only at this;omega) (by have:=vc1.h7;simp only at this;omega) vc1.len
    have HTX:=am (hK2 K2 (Nat.le_refl _))
    have HCG:=am (And.intro hcg hCg)
    have HC0:=am hc0
    have HC1:=am hc1
    have HV1:=am vc1
    have HD4:=am hd4
    have HPL:=am hPl
    clear hblk hgrid hgrid' hnode hgv hcg hCg vc0 vc1 hK2 hc0 hpk hd4 hd hPl
    go_upto_region 15 with (first
     | (go_at_call 100;refine (spec_tiTilt.calls _ _ Ag cg c0 _ _ _ _ _ HCG.out.2 HCG.out.1 HT0.out).mono ?_;rintro e w7 ⟨v7,rfl,ho7,hb7⟩;rw [HC1.out] at ho7;obtain ⟨A7,c7,rfl⟩:=Kd.R_slice ho7;have HA7:=am (HA'.out.below hb7);have HO7:=am (Kd.R_lower ho7 HA'.out.bel.size);clear ho7 hb7 z0 z1 z2)
     | (refine bx 10 #[.int .i64 0,.int .i64 0,.slice none 0 0] 75 ?_;intro b10 hg10 w8 hbox8 hb8;have y0:w8.cell? ⟨b10,0,none⟩ = some (.int .i64 0):=(blk_cell hbox8 0).trans rfl;have y1:w8.cell? ⟨b10,1,none⟩ = some (.int .i64 0):=(blk_cell hbox8 1).trans rfl;have y2:w8.cell? ⟨b10,2,none⟩ = some (.slice none 0 0):=(blk_cell hbox8 2).trans rfl;have f0:=blk_frozen hbox8 0;have f1:=blk_frozen hbox8 1;have f2:=blk_frozen hbox8 2;have X8:=am hbox8;have G10:=am (show w7.heap.size ≤ b10 by rw [hg10];exact Nat.le_refl _);have HA8:=am (HA7.out.below hb8);have HO8:=am (Kd.R_below HO7.out hb8);have HB8:=am hb8;clear hg10 hbox8 hb8 HO7)
     | (go_at_call 65;obtain ⟨w9,hw9⟩:∃ w9,(((w8.setCell ⟨b10,0,none⟩ (.int .i64 gw)).setCell ⟨b10,1,none⟩ (.int .i64 gh)).setCell ⟨b10,2,none⟩ (.slice A7 c1'.length c7)) = w9:=⟨_,rfl⟩;rw [hw9];have HB9:=am (show Below w7.heap.size w7 w9 by rw [← hw9];exact below_set3 HB8.out G10.out _ _ _);have x9:w9.heap[b10]? = some (.cells #[.int .i64 gw,.int .i64 gh,.slice A7 c1'.length c7] 75 (0,0)):=(by rw [← hw9];exact blk_set3 X8.out _ _ _);have HO9:=am (show Kd.R (Kd.int .u8) 5 w9 w.heap.size (fun _=>True) (.slice A7 c1'.length c7) c1' by rw [← hw9];exact R_off3 HO8.out X8.out d_c _ _ _);have HA9:=am (HA7.out.below HB9.out);have X9:=am x9;clear hw9 HO8 x9 y0 y1 y2 f0 f1 f2 HA7 HA8 HB8 X8;refine (spec_tyText.calls K2 _ _ A7 c7 c1' _ _ (Kd.R_reads' HO9.out).2.2 (by have h:=(Kd.R_reads' HO9.out).2.1;exact h) HTX.out).mono ?_;rintro e w10 ⟨rfl,hb10⟩;have HA10:=am (HA9.out.below hb10);have X10:=am (blk_below X9.out hb10);have HO10:=am (Kd.R_below HO9.out hb10);clear hb10 HA9 HO9 X9;obtain ⟨bk1,o1,ck1,hv6,hck1,hptr1,hat1⟩:=HA10.out.opens;subst hv6)
     | (go_at_call 101;refine (by have h:=rePlace_calls bk1 o1 ck1 (nodesL (txG gw gh) gw gh s' Q' P) (txG gw gh c1') w10 (by rw [nodesL_len];exact hck1) (by rw [nodesL_len];have:=HA10.out.ok.most;omega) hat1;rw [nodesL_len,place_nodes HA10.out.ok HV1.out] at h;exact h:Calls Tryz.prog 101 _ _ _).mono ?_;rintro e w11 ⟨rfl,hb11⟩;have HA11:=am (HA10.out.below hb11);have X11:=am (blk_below X10.out hb11);have HO11:=am (Kd.R_below HO10.out hb11);clear hb11 hat1 hptr1 hck1 HA10 HO10 X10))
    generalize hpv:(if findT s'.T c1' < s'.T.length then (findT s'.T c1':Int) else -1) = pv
    have HPV:=am hpv
    clear hpv
    by_cases hf:findT s'.T c1' < s'.T.length
    ·have hpv':pv = ((findT s'.T c1':Nat):Int):=by rw [← HPV.out,if_pos hf]
     subst hpv'
     have hnn:¬ (((findT s'.T c1':Nat):Int) < 0):=by omega
     have HSS:=am (show seeAllQ gw gh k ([0,1,2,3].drop (d + 1)) s' (addW s'.F k Q' (findT s'.T c1')) (P ++ [findT s'.T c1']) = seeAllQ gw gh k [0,1,2,3] s Q [] by
      rw [← HSB.out];exact (seeAll_found HD4.out (by rw [HC0.out];exact HC1.out) hf).symm)
     have HAL:=am hf
     have HS1:=HS'
     have HP1:=HP'
     generalize findT s'.T c1' = a at *
     clear HPV hf HSB HT0 HTX HCG HC0 HC1 HV1 HA'
     have haL:a < L'.length:=by rw [HA11.out.len];exact HAL.out
     have hkL1:k < L'.length:=by rw [HA11.out.len];exact HS1.out.2.1
     obtain ⟨bk2,o2,ck2,hv2,hck2,hptr2,-⟩:=HA11.out.opens
     injection hv2 with e1 _ e2;injection e1 with e1;injection e1 with e1 e3;subst e1 e2 e3
     obtain ⟨pa,hpa⟩:∃ pa,(L'[a]'haL).p = pa:=⟨_,rfl⟩
     have hpk1:(L'[k]'hkL1).p = p8:=by
      have:=HP1.out
      rw [List.getElem?_map,List.getElem?_eq_getElem hkL1] at this
      exact Option.some.inj this
     have zpa:=hptr2 a haL
     rw [hpa] at zpa
     have hba:=HA11.out.blk haL
     have hbk:=HA11.out.blk hkL1
     rw [hpa] at hba
     rw [hpk1] at hbk
     unfold NodeM.cells at hba hbk
     rw [HA11.out.node haL] at hba
     rw [HA11.out.node hkL1] at hbk
     have za4:w11.cell? ⟨pa,4,none⟩ = some (.int .i64 ((s'.F.getD a 0:Nat):Int)):=(blk_cell hba 4).trans rfl
     have za5:w11.cell? ⟨pa,5,none⟩ = some (.int .i64 (Q'.getD a 0)):=(blk_cell hba 5).trans rfl
     have zk4:w11.cell? ⟨p8,4,none⟩ = some (.int .i64 ((s'.F.getD k 0:Nat):Int)):=(blk_cell hbk 4).trans rfl
     have zk5:w11.cell? ⟨p8,5,none⟩ = some (.int .i64 (Q'.getD k 0)):=(blk_cell hbk 5).trans rfl
     have faf:=blk_frozen hba 5
     have haI:((a:Nat):Int) < (s'.T.length:Int):=by have:=HAL.out;omega
     have hfk:=far_le HA11.out.ok HS1.out.2.1
     have hwf:IntKind.i64.wrap (((s'.F.getD k 0:Nat):Int) + 1) = ((s'.F.getD k 0 + 1:Nat):Int):=by rw [IntKind.wrap_i64];have:=HA11.out.ok.most;have:=HS1.out.2.1;omega
     have HADD:=am (show addW s'.F k Q' a = if s'.F.getD a 0 = s'.F.getD k 0 + 1 then Q'.set a (wrap64 (Q'.getD a 0 + Q'.getD k 0)) else Q' from rfl)
     obtain ⟨fa,hfa⟩:∃ fa,s'.F.getD a 0 = fa:=⟨_,rfl⟩
     obtain ⟨fk,hfk'⟩:∃ fk,s'.F.getD k 0 = fk:=⟨_,rfl⟩
     obtain ⟨qa,hqa⟩:∃ qa,Q'.getD a 0 = qa:=⟨_,rfl⟩
     obtain ⟨qk,hqk⟩:∃ qk,Q'.getD k 0 = qk:=⟨_,rfl⟩
     rw [hfa] at za4
     rw [hfk'] at zk4 hwf
     rw [hqa] at za5
     rw [hqk] at zk5
     rw [hfa,hfk',hqa,hqk] at HADD
     have HPA:=am hpa
     have HPK1:=am hpk1
     have HAL2:=am haL
     have HKL1:=am hkL1
     clear hba hbk hptr2 hck2 hfk hfa hfk' hqa hqk hpa hpk1
     by_cases hfe:fa = fk + 1
     rotate_left
     ·have hfe2:(((fa:Nat):Int) == ((fk + 1:Nat):Int)) = false:=beq_eq_false_iff_ne.2 o_m
      have HSS2:=am (show seeAllQ gw gh k ([0,1,2,3].drop (d + 1)) s' Q' (P ++ [a]) = seeAllQ gw gh k [0,1,2,3] s Q [] by rw [← HSS.out,HADD.out,if_neg hfe])
      clear hfe
      go_wp2
      go_region_held3 (fun w'=>w'.cell? ⟨bk1,o1 + a,none⟩ = some (.pointer (some ⟨pa,0,none⟩)) ∧ w'.cell? ⟨pa,4,none⟩ = some (.int .i64 ((fa:Nat):Int)) ∧ w'.cell? ⟨p8,4,none⟩ = some (.int .i64 ((fk:Nat):Int))) (first | go_keep)
       ((first | fail))
      have HA12:=am (HA11.out.below (below_drew1 (Below.refl _ _)))
      clear zpa za4 za5 zk4 zk5 faf hwf HSS HADD
      generalize w11.drew = wd at HA12 ⊢
      have hkL2:k < L'.length:=by rw [HA12.out.len];exact HS1.out.2.1
      have hpk2:(L'[k]'hkL2).p = p8:=by
       have:=HP1.out
       rw [List.getElem?_map,List.getElem?_eq_getElem hkL2] at this
       exact Option.some.inj this
      have hbk2:=HA12.out.blk hkL2
      rw [hpk2] at hbk2
      unfold NodeM.cells at hbk2
      have hnx:=(HA12.out.nd.at_ _ (List.getElem_mem hkL2)).next
      have hnl:(L'[k]'hkL2).n.next.length = P.length:=by
       rw [HA12.out.node hkL2]
       show (castsI (if k < s'.N.length then s'.N.getD k [] else if k = s'.N.length then P else [])).length = _
       rw [if_neg (by rw [HS1.out.1,HNK.out];omega),if_pos (by rw [HS1.out.1,HNK.out]),castsI_length]
      obtain ⟨An,cn,hxv⟩:=Kd.R_slice hnx
      rw [hxv] at hbk2 hnx
      have zk8:wd.cell? ⟨p8,8,none⟩ = some (.slice An (L'[k]'hkL2).n.next.length cn):=(blk_cell hbk2 8).trans rfl
      have HXV:=am hxv
      have HNX:=am hnx
      have HBK2:=am hbk2
      have HPK2:=am hpk2
      have HL8:=am (show ((L'[k]'hkL2).n.next.length + 1) * 8 ≤ 140737488355328 by rw [hnl,HPL.out];have:=HD4.out;omega)
      have hw1:IntKind.i64.wrap ((d:Int) + 1) = ((d + 1:Nat):Int):=by rw [IntKind.wrap_i64];have:=HD4.out;omega
      clear hxv hnx hbk2 hpk2
      generalize hnn:(L'[k]'hkL2).n.next = nx at *
      have HNN:=am hnn
      clear hnn hnl
      go_wp2_with (first
       | ((with_reducible refine gate_builtin (b:=.append) (xs:=#[.tmp 102,.tmp 104]) rfl ?_);at_builtin;refine Kd.R_append (Kd.int .i64) (w0:=w) w.heap.size rfl (.tmp 102) (.tmp 104) 40 3 (.int .i64 0) 8 rfl Tryz.underlying40 info3 rfl d_c o_m (.slice An nx.length cn) nx (a:Int) [.int .i64 a] (fun _=>True) (fun _=>False) rfl rfl ?aP (fun _ hk=>hk.elim) ?aF ?aO ?aB ?aS ?aL ?_;(case aP=>exact rfl);(case aB=>exact HA12.out.bel);(case aF=>exact (fun _ _=>trivial));(case aO=>exact HNX.out);(case aS=>exact HA12.out.bel.size);(case aL=>exact HL8.out);intro v7 w7 ho7 hb7 hg7 hat7;obtain ⟨A7',c7',hv7⟩:=Kd.R_slice ho7;obtain ⟨n7,hn7⟩:∃ n7,(nx ++ [(a:Int)]).length = n7:=⟨_,rfl⟩;rw [hn7] at hv7;subst hv7;have hbk7:=blk_grown HBK2.out hg7 (Kd.R_ne HNX.out HBK2.out d_c);have zk8':w7.cell? ⟨p8,8,none⟩ = some (.slice An nx.length cn):=(blk_cell hbk7 8).trans (by first | rfl | (rw [HNN.out];rfl));have fk8:=blk_frozen hbk7 8;have HO7:=am ho7;have HB7:=am hb7;have HG7:=am hg7;have HAT7:=am hat7;clear ho7 hb7 hg7 hat7 hbk7 zk8))
      go_roundw
      case rel =>
       have hway:=HA12.out.way (x:=a) (by rw [HS1.out.1];exact HNK.out) hkL2 (v':=.slice A7' n7 c7') (w1:=w7) (by rw [HNN.out];exact HO7.out) (by rw [HXV.out];exact HG7.out) HB7.out (by rw [HXV.out];exact HAT7.out)
       rw [HPK2.out] at hway
       refine ⟨d + 1,s',_,P ++ [a],_,by have:=HD4.out;omega,by first | rfl | simp,by rw [List.length_append,HPL.out];rfl,HSS2,⟨HS1.out.1,HS1.out.2.1,HS1.out.2.2.1,fun x hx=>?_⟩,⟨?_⟩,⟨hway⟩⟩
       ·rcases List.mem_append.1 hx with hx | hx
        ·exact HS1.out.2.2.2 x hx
        ·rw [List.mem_singleton.1 hx];exact HAL.out
       ·rw [show (⟨p8,(L'[k]'hkL2).g,.slice A7' n7 c7',_⟩:NodeM) = ⟨(L'[k]'hkL2).p,(L'[k]'hkL2).g,.slice A7' n7 c7',_⟩ from by rw [HPK2.out],map_p_set];exact HP1.out
      case measure=>have:=HD4.out;simp [intOf];omega
     subst hfe
     have hfe:(((fk + 1:Nat):Int) == ((fk + 1:Nat):Int)) = true:=beq_self_eq_true _
     go_wp2
     go_region_held3 (fun w'=>w'.cell? ⟨bk1,o1 + a,none⟩ = some (.pointer (some ⟨pa,0,none⟩)) ∧ w'.cell? ⟨pa,4,none⟩ = some (.int .i64 ((fk + 1:Nat):Int)) ∧ w'.cell? ⟨p8,4,none⟩ = some (.int .i64 ((fk:Nat):Int))) (first | go_keep)
      ((first | fail))
     have ypa:w11.drew.cell? ⟨bk1,o1 + a,none⟩ = some (.pointer (some ⟨pa,0,none⟩)):=zpa
     have ya5:w11.drew.cell? ⟨pa,5,none⟩ = some (.int .i64 qa):=za5
     have yk5:w11.drew.cell? ⟨p8,5,none⟩ = some (.int .i64 qk):=zk5
     have yaf:w11.drew.frozen? ⟨pa,5,none⟩ = false:=faf
     have HA12:=am (HA11.out.below (below_drew1 (Below.refl _ _)))
     clear zpa za4 za5 zk4 zk5 faf hwf
     generalize w11.drew = wd at ypa ya5 yk5 yaf HA12 ⊢
     go_wp2
     go_still_tail 14,k_r
     change wpList _ _ _ _ _ wd.drew
     have HA13:=am ((HA12.out.below (below_drew1 (Below.refl _ _))).words HAL2.out (wrap64 (qa + qk)))
     rw [HPA.out] at HA13
     have xa5:wd.drew.cell? ⟨pa,5,none⟩ = some (.int .i64 qa):=ya5
     have xaf:wd.drew.frozen? ⟨pa,5,none⟩ = false:=yaf
     generalize wd.drew = we at xa5 xaf HA13 ⊢
     refine store_event (t:=3) (p:=97) (v:=.tmp 95) (w1:=we.setCell ⟨pa,5,none⟩ (.int .i64 (wrap64 (qa + qk)))) ?hg ?ho ?hn ?hr ?_
     case ho=>rfl
     case hg=>rfl
     case hn=>rfl
     case hr=>first | (go_simp;done) | (go_simp;simp only [i64_w];done) | (go_simp;simp only [i64_w];rfl)
     intro wf hwf
     rw [← hwf] at HA13
     clear hwf
     have HP2:=am (show ((L'.set a ⟨pa,(L'[a]'HAL2.out).g,(L'[a]'HAL2.out).x,{ (L'[a]'HAL2.out).n with words:=wrap64 (qa + qk) }⟩).map NodeM.p)[k]? = some p8 by rw [← HPA.out,map_p_set];exact HP1.out)
     generalize L'.set a ⟨pa,(L'[a]'HAL2.out).g,(L'[a]'HAL2.out).x,{ (L'[a]'HAL2.out).n with words:=wrap64 (qa + qk) }⟩ = L2 at HA13 HP2
     have HSS2:=am (show seeAllQ gw gh k ([0,1,2,3].drop (d + 1)) s' (Q'.set a (wrap64 (qa + qk))) (P ++ [a]) = seeAllQ gw gh k [0,1,2,3] s Q [] by rw [← HSS.out,HADD.out];simp)
     clear HP1 HADD HSS xa5 xaf hfe HA12 HA11
     have hkL2:k < L2.length:=by rw [HA13.out.len];exact HS1.out.2.1
     have hpk2:(L2[k]'hkL2).p = p8:=by
      have:=HP2.out
      rw [List.getElem?_map,List.getElem?_eq_getElem hkL2] at this
      exact Option.some.inj this
     have hbk2:=HA13.out.blk hkL2
     rw [hpk2] at hbk2
     unfold NodeM.cells at hbk2
     have hnx:=(HA13.out.nd.at_ _ (List.getElem_mem hkL2)).next
     have hnl:(L2[k]'hkL2).n.next.length = P.length:=by
      rw [HA13.out.node hkL2]
      show (castsI (if k < s'.N.length then s'.N.getD k [] else if k = s'.N.length then P else [])).length = _
      rw [if_neg (by rw [HS1.out.1,HNK.out];omega),if_pos (by rw [HS1.out.1,HNK.out]),castsI_length]
     obtain ⟨An,cn,hxv⟩:=Kd.R_slice hnx
     rw [hxv] at hbk2 hnx
     have zk8:wf.cell? ⟨p8,8,none⟩ = some (.slice An (L2[k]'hkL2).n.next.length cn):=(blk_cell hbk2 8).trans rfl
     have HXV:=am hxv
     have HNX:=am hnx
     have HBK2:=am hbk2
     have HPK2:=am hpk2
     have HL8:=am (show ((L2[k]'hkL2).n.next.length + 1) * 8 ≤ 140737488355328 by rw [hnl,HPL.out];have:=HD4.out;omega)
     have hw1:IntKind.i64.wrap ((d:Int) + 1) = ((d + 1:Nat):Int):=by rw [IntKind.wrap_i64];have:=HD4.out;omega
     clear hxv hnx hbk2 hpk2
     generalize hnn:(L2[k]'hkL2).n.next = nx at *
     have HNN:=am hnn
     clear hnn hnl
     go_wp2_with (first
      | ((with_reducible refine gate_builtin (b:=.append) (xs:=#[.tmp 102,.tmp 104]) rfl ?_);at_builtin;refine Kd.R_append (Kd.int .i64) (w0:=w) w.heap.size rfl (.tmp 102) (.tmp 104) 40 3 (.int .i64 0) 8 rfl Tryz.underlying40 info3 rfl d_c o_m (.slice An nx.length cn) nx (a:Int) [.int .i64 a] (fun _=>True) (fun _=>False) rfl rfl ?aP (fun _ hk=>hk.elim) ?aF ?aO ?aB ?aS ?aL ?_;(case aP=>exact rfl);(case aB=>exact HA13.out.bel);(case aF=>exact (fun _ _=>trivial));(case aO=>exact HNX.out);(case aS=>exact HA13.out.bel.size);(case aL=>exact HL8.out);intro v7 w7 ho7 hb7 hg7 hat7;obtain ⟨A7',c7',hv7⟩:=Kd.R_slice ho7;obtain ⟨n7,hn7⟩:∃ n7,(nx ++ [(a:Int)]).length = n7:=⟨_,rfl⟩;rw [hn7] at hv7;subst hv7;have hbk7:=blk_grown HBK2.out hg7 (Kd.R_ne HNX.out HBK2.out d_c);have zk8':w7.cell? ⟨p8,8,none⟩ = some (.slice An nx.length cn):=(blk_cell hbk7 8).trans (by first | rfl | (rw [HNN.out];rfl));have fk8:=blk_frozen hbk7 8;have HO7:=am ho7;have HB7:=am hb7;have HG7:=am hg7;have HAT7:=am hat7;clear ho7 hb7 hg7 hat7 hbk7 zk8))
     go_roundw
     case rel =>
      have hway:=HA13.out.way (x:=a) (by rw [HS1.out.1];exact HNK.out) hkL2 (v':=.slice A7' n7 c7') (w1:=w7) (by rw [HNN.out];exact HO7.out) (by rw [HXV.out];exact HG7.out) HB7.out (by rw [HXV.out];exact HAT7.out)
      rw [HPK2.out] at hway
      refine ⟨d + 1,s',_,P ++ [a],_,by have:=HD4.out;omega,by first | rfl | simp,by rw [List.length_append,HPL.out];rfl,HSS2,⟨HS1.out.1,HS1.out.2.1,HS1.out.2.2.1,fun x hx=>?_⟩,⟨?_⟩,⟨hway⟩⟩
      ·rcases List.mem_append.1 hx with hx | hx
       ·exact HS1.out.2.2.2 x hx
       ·rw [List.mem_singleton.1 hx];exact HAL.out
      ·rw [show (⟨p8,(L2[k]'hkL2).g,.slice A7' n7 c7',_⟩:NodeM) = ⟨(L2[k]'hkL2).p,(L2[k]'hkL2).g,.slice A7' n7 c7',_⟩ from by rw [HPK2.out],map_p_set];exact HP2.out
     case measure=>have:=HD4.out;simp [intOf];omega
    have hpv':pv = -1:=by rw [← HPV.out,if_neg hf]
    subst hpv'
    by_cases h300:s'.T.length = 300
    ·have hne:(((s'.T.length:Nat):Int) == 300) = true:=beq_iff_eq.2 o_m
     have hnone:seeAllQ gw gh k [0,1,2,3] s Q [] = none:=by rw [← HSB.out];exact seeAll_full HD4.out (by rw [HC0.out];exact HC1.out) hf h300
     have hR:R = none:=by rw [← HF2.out,hnone];rfl
     have hrD:reachD gw gh cs = none:=by
      show bfsD gw gh 301 0 (RS.start cs) = none
      rw [← bfsQ_fst _ _ _ [1],HR0.out,hR];rfl
     have HSN:=am (show srch t = none by rw [HS.out,hrD];rfl)
     obtain rfl:false = b:=by rw [← HBB.out,HSN.out];rfl
     clear hnone hR hrD hf
     go_wp2
     go_ret2
     exact ⟨_,rfl,.inl ⟨HSN.out,rfl⟩,HA11.out.bel⟩
    have hne:(((s'.T.length:Nat):Int) == 300) = false:=beq_eq_false_iff_ne.2 o_m
    have hblk:=HA11.out.blk hkL
    have hpk:(L'[k]'hkL).p = p8:=by
     have:=HP'.out
     rw [List.getElem?_map,List.getElem?_eq_getElem hkL] at this
     exact Option.some.inj this
    rw [hpk] at hblk
    unfold NodeM.cells at hblk
    rw [HA11.out.node hkL] at hblk
    have y0:w11.cell? ⟨b10,0,none⟩ = some (.int .i64 gw):=(blk_cell X11.out 0).trans rfl
    have y1:w11.cell? ⟨b10,1,none⟩ = some (.int .i64 gh):=(blk_cell X11.out 1).trans rfl
    have y2:w11.cell? ⟨b10,2,none⟩ = some (.slice A7 c1'.length c7):=(blk_cell X11.out 2).trans rfl
    have zk4:w11.cell? ⟨p8,4,none⟩ = some (.int .i64 ((s'.F.getD k 0:Nat):Int)):=(blk_cell hblk 4).trans rfl
    have hfk:=far_le HA11.out.ok HS'.out.2.1
    have hwf:IntKind.i64.wrap (((s'.F.getD k 0:Nat):Int) + 1) = ((s'.F.getD k 0:Nat):Int) + 1:=by rw [IntKind.wrap_i64];have:=HA11.out.ok.most;have:=HS'.out.2.1;omega
    obtain ⟨fk,hfk'⟩:∃ fk,s'.F.getD k 0 = fk:=⟨_,rfl⟩
    rw [hfk'] at zk4 hwf
    have HFK3:=am hfk'
    have hsn:=seeD_new (by rw [HC0.out];exact HC1.out:tiltD gw gh d (s'.T.getD k []) = c1') hf h300
    have HOK:=am (see_ok HA11.out.ok HS'.out.2.1 HD4.out hsn).1
    have HSS:=am (show seeAllQ gw gh k ([0,1,2,3].drop (d + 1)) (pushD s' k d c1') (addW (pushD s' k d c1').F k (Q' ++ [0]) s'.T.length) (P ++ [s'.T.length]) = seeAllQ gw gh k [0,1,2,3] s Q [] by
     rw [← HSB.out];exact (seeAll_new HD4.out (by rw [HC0.out];exact HC1.out) hf h300).symm)
    have HAL:=am (show s'.T.length < (pushD s' k d c1').T.length by show s'.T.length < (s'.T ++ [c1']).length;simp)
    have HS1:=am (show (pushD s' k d c1').N = s.N ∧ k < (pushD s' k d c1').T.length ∧ s.T.length ≤ (pushD s' k d c1').T.length ∧ ∀ x ∈ P,x < (pushD s' k d c1').T.length by
     have e:(pushD s' k d c1').T.length = s'.T.length + 1:=by show (s'.T ++ [c1']).length = _;simp
     rw [e]
     exact ⟨HS'.out.1,by have:=HS'.out.2.1;omega,by have:=HS'.out.2.2.1;omega,fun x hx=>by have:=HS'.out.2.2.2 x hx;omega⟩)
    have HLT8:=am (show ((L'.map NodeM.p).length + 1) * 8 ≤ 140737488355328 by rw [List.length_map,HA11.out.len];have:=HA11.out.ok.most;omega)
    have HFK2:=am (show s'.N.length = k by rw [HS'.out.1];exact HNK.out)
    have HLEN:=am HA11.out.len
    clear hblk hfk hfk' hsn hf h300 hpk HSB HT0 HTX HCG HC0 HC1 HV1 HA' HPV
    go_wp2
    have HA12:=am (HA11.out.below (below_drew1 (Below.refl _ _)))
    have HO12:Aside0 (Kd.R (Kd.int .u8) 5 w11.drew w.heap.size (fun _=>True) (.slice A7 c1'.length c7) c1'):=⟨Kd.R_drew HO11.out⟩
    refine start_ (n:=15) (S:=fun w'=>w'.cell? ⟨b10,0,none⟩ = some (.int .i64 gw) ∧ w'.cell? ⟨b10,1,none⟩ = some (.int .i64 gh) ∧ w'.cell? ⟨b10,2,none⟩ = some (.slice A7 c1'.length c7) ∧ w'.cell? ⟨p8,4,none⟩ = some (.int .i64 (fk:Int))) (ds:=[]) (bm 15 0) k_r rfl rfl ⟨y0,y1,y2,zk4⟩ (fun hHeld=>?_)
    clear y0 y1 y2 zk4
    have XB:Aside0 (w11.drew.heap[b10]? = some (.cells #[.int .i64 gw,.int .i64 gh,.slice A7 c1'.length c7] 75 (0,0))):=⟨X11.out⟩
    generalize w11.drew = wd at hHeld HA12 HO12 XB ⊢
    have hh:=hHeld
    obtain ⟨y0,y1,y2,zk4⟩:=hh
    refine take_ (i:=0) (N:=some 57) (v:=?_) (a':=?_) (bm 15 1) rfl rfl k_r (fun _ _ _ h=>h) (Or.inl ⟨by rfl,?_⟩) hHeld ?_ ?_
    rotate_left
    ·rintro w' ⟨s0,s1,s2,s3⟩
     go_simp
     try with_reducible rfl
    rotate_left
    ·simp only [Act.put,ac_]
     rfl
    refine take_ (i:=1) (N:=some 58) (v:=?_) (a':=?_) (bm 15 3) rfl rfl k_r (fun _ _ _ h=>h) (Or.inl ⟨by rfl,?_⟩) hHeld ?_ ?_
    rotate_left
    ·rintro w' ⟨s0,s1,s2,s3⟩
     go_simp
     try with_reducible rfl
    rotate_left
    ·simp only [Act.put,ac_]
     rfl
    refine take_ (i:=2) (N:=some 59) (v:=?_) (a':=?_) (bm 15 7) rfl rfl k_r (fun _ _ _ h=>h) (Or.inl ⟨by rfl,?_⟩) hHeld ?_ ?_
    rotate_left
    ·rintro w' ⟨s0,s1,s2,s3⟩
     go_simp
     try with_reducible rfl
    rotate_left
    ·simp only [Act.put,ac_]
     rfl
    refine take_ (i:=3) (N:=some 60) (v:=?_) (a':=?_) (bm 15 15) rfl rfl k_r (fun _ _ _ h=>h) (Or.inl ⟨by rfl,?_⟩) hHeld ?_ ?_
    rotate_left
    ·rintro w' ⟨s0,s1,s2,s3⟩
     go_simp
     try with_reducible rfl
    rotate_left
    ·simp only [Act.put,ac_]
     rfl
    refine take_ (i:=4) (N:=some 61) (v:=?_) (a':=?_) (bm 15 31) rfl rfl k_r (fun _ _ _ h=>h) (Or.inl ⟨by rfl,?_⟩) hHeld ?_ ?_
    rotate_left
    ·rintro w' ⟨s0,s1,s2,s3⟩
     go_simp
     try with_reducible rfl
    rotate_left
    ·simp only [Act.put,ac_]
     rfl
    refine take_ (i:=5) (N:=some 62) (v:=?_) (a':=?_) (bm 15 63) rfl rfl k_r (fun _ _ _ h=>h) (Or.inl ⟨by rfl,?_⟩) hHeld ?_ ?_
    rotate_left
    ·rintro w' ⟨s0,s1,s2,s3⟩
     go_simp
     try with_reducible rfl
    rotate_left
    ·simp only [Act.put,ac_]
     rfl
    refine take_ (i:=6) (N:=some 63) (v:=?_) (a':=?_) (bm 15 127) rfl rfl k_r (fun _ _ _ h=>h) (Or.inl ⟨by rfl,?_⟩) hHeld ?_ ?_
    rotate_left
    ·rintro w' ⟨s0,s1,s2,s3⟩
     go_simp
     try with_reducible rfl
    rotate_left
    ·simp only [Act.put,ac_]
     rfl
    refine take_ (i:=7) (N:=some 64) (v:=?_) (a':=?_) (bm 15 255) rfl rfl k_r (fun _ _ _ h=>h) (Or.inl ⟨by rfl,?_⟩) hHeld ?_ ?_
    rotate_left
    ·rintro w' ⟨s0,s1,s2,s3⟩
     go_simp
     try with_reducible rfl
    rotate_left
    ·simp only [Act.put,ac_]
     rfl
    refine take_ (i:=8) (N:=some 65) (v:=?_) (a':=?_) (bm 15 511) rfl rfl k_r (fun _ _ _ h=>h) (Or.inl ⟨by rfl,?_⟩) hHeld ?_ ?_
    rotate_left
    ·rintro w' ⟨s0,s1,s2,s3⟩
     go_simp
     try with_reducible rfl
    rotate_left
    ·simp only [Act.put,ac_]
     rfl
    refine take_ (i:=9) (N:=some 66) (v:=?_) (a':=?_) (bm 15 1023) rfl rfl k_r (fun _ _ _ h=>h) (Or.inl ⟨by rfl,?_⟩) hHeld ?_ ?_
    rotate_left
    ·rintro w' ⟨s0,s1,s2,s3⟩
     go_simp
     try with_reducible rfl
    rotate_left
    ·simp only [Act.put,ac_]
     rfl
    refine take_ (i:=10) (N:=some 67) (v:=?_) (a':=?_) (bm 15 2047) rfl rfl k_r (fun _ _ _ h=>h) (Or.inl ⟨by rfl,?_⟩) hHeld ?_ ?_
    rotate_left
    ·rintro w' ⟨s0,s1,s2,s3⟩
     go_simp
     try with_reducible rfl
    rotate_left
    ·simp only [Act.put,ac_]
     rfl
    refine one_ (i:=11) (N:=some 68) (bm 15 4095) rfl rfl k_r d_c (fun K' hK'=>?_)
    go_simp
    have hal:=(Below.refl _ wd).alloc (Nat.le_refl _) (.cells #[.int .i64 gw,.int .i64 gh,.slice A7 c1'.length c7,.string (textB (gw,gh,c1')),.int .i64 ((fk:Int) + 1),.int .i64 0,.int .i64 k,.int .i64 d,.slice none 0 0] 77)
    refine hK'.out _ _ ⟨(hal.cell (World.block_lt_of_cell? wd _ y0)).trans y0,(hal.cell (World.block_lt_of_cell? wd _ y1)).trans y1,(hal.cell (World.block_lt_of_cell? wd _ y2)).trans y2,(hal.cell (World.block_lt_of_cell? wd _ zk4)).trans zk4⟩ (fun hHeld=>?_)
    clear hK' K'
    have X12:=am (heap_alloc_new wd (.cells #[.int .i64 gw,.int .i64 gh,.slice A7 c1'.length c7,.string (textB (gw,gh,c1')),.int .i64 ((fk:Int) + 1),.int .i64 0,.int .i64 k,.int .i64 d,.slice none 0 0] 77))
    have HB12:=am hal
    have u0:=(hal.cell (World.block_lt_of_cell? wd _ y0)).trans y0
    have u1:=(hal.cell (World.block_lt_of_cell? wd _ y1)).trans y1
    have u2:=(hal.cell (World.block_lt_of_cell? wd _ y2)).trans y2
    have u3:=(hal.cell (World.block_lt_of_cell? wd _ zk4)).trans zk4
    obtain ⟨pn,hpn⟩:∃ pn,wd.heap.size = pn:=⟨_,rfl⟩
    rw [hpn] at X12
    have HPN:=am (show wd.heap.size ≤ pn by rw [hpn];exact Nat.le_refl _)
    (try simp only [hpn])
    generalize wd.alloc (.cells #[.int .i64 gw,.int .i64 gh,.slice A7 c1'.length c7,.string (textB (gw,gh,c1')),.int .i64 ((fk:Int) + 1),.int .i64 0,.int .i64 k,.int .i64 d,.slice none 0 0] 77) = w12 at X12 HB12 u0 u1 u2 u3 ⊢
    have HA13:=am (HA12.out.below HB12.out)
    have HO13:=am (Kd.R_below HO12.out HB12.out)
    have HLW:=am (show w.heap.size ≤ w12.heap.size from Nat.le_trans HA12.out.bel.size HB12.out.size)
    clear hal y0 y1 y2 zk4
    refine one_ (i:=12) (N:=some 69) (bm 15 8191) rfl rfl k_r d_c (fun K' hK'=>?_)
    go_simp
    have hal2:=(Below.refl _ w12).alloc (Nat.le_refl _) (.cells #[.pointer (some ⟨pn,0,none⟩)] 73)
    refine hK'.out _ _ ⟨(hal2.cell (World.block_lt_of_cell? w12 _ u0)).trans u0,(hal2.cell (World.block_lt_of_cell? w12 _ u1)).trans u1,(hal2.cell (World.block_lt_of_cell? w12 _ u2)).trans u2,(hal2.cell (World.block_lt_of_cell? w12 _ u3)).trans u3⟩ (fun hHeld=>?_)
    clear hK' K' hal2
    refine one_ (i:=13) (N:=some 70) (bm 15 16383) rfl rfl k_r d_c (fun K' hK'=>?_)
    refine Kd.R_append_step (w0:=w) ptrS w.heap.size (by rfl) (.tmp 57) (.tmp 69) 67 73 (.pointer none) 8 rfl Tryz.underlying67 infoP rfl d_c o_m (.slice (some ⟨bk1,o1,none⟩) s'.T.length ck1) (L'.map NodeM.p) pn [.pointer (some ⟨pn,0,none⟩)] (fun _=>True) (fun _=>False) ?aE ?aX ?aP (fun _ hk=>hk.elim) ?aF HA13.out.row HA13.out.bel ?aS ?aL ?_
    case aE=>rfl
    case aX=>rfl
    case aP=>exact rfl
    case aF=>exact (fun _ _=>trivial)
    case aS=>exact HLW.out
    case aL=>exact HLT8.out
    intro v7 w7 ho hb hg hat
    have hpk:(L'[k]'hkL).p = p8:=by
     have:=HP'.out
     rw [List.getElem?_map,List.getElem?_eq_getElem hkL] at this
     exact Option.some.inj this
    have h8:=HA13.out.blk hkL
    rw [hpk] at h8
    unfold NodeM.cells at h8
    rw [HA13.out.node hkL] at h8
    have h87:=blk_grown h8 hg (Kd.R_ne HA13.out.row h8 d_c)
    have hb87:=blk_grown (blk_below XB.out HB12.out) hg (Kd.R_ne HA13.out.row (blk_below XB.out HB12.out) d_c)
    have zq4:w7.cell? ⟨p8,4,none⟩ = some (.int .i64 (fk:Int)):=(blk_cell h87 4).trans (by rw [← HFK3.out];rfl)
    have HA14:Aside0 (AllAt w w7 gw gh cs (pushD s' k d c1') (Q' ++ [0]) P (L' ++ [(⟨pn,.slice A7 c1'.length c7,.slice none 0 0,{ w:=gw,h:=gh,grid:=c1',text:=txG gw gh c1',far:=((fk + 1:Nat):Int),words:=0,before:=k,dir:=d,next:=[] }⟩:NodeM)]) v7):=by
     have ok:=HOK.out
     unfold pushD at ok ⊢
     rw [HFK3.out] at ok ⊢
     exact ⟨HA12.out.push HFK2.out HS'.out.2.1 ok HB12.out HPN.out X12.out HO13.out ho hb hg⟩
    have HP1:=am (show ((L' ++ [(⟨pn,.slice A7 c1'.length c7,.slice none 0 0,{ w:=gw,h:=gh,grid:=c1',text:=txG gw gh c1',far:=((fk + 1:Nat):Int),words:=0,before:=k,dir:=d,next:=[] }⟩:NodeM)]).map NodeM.p)[k]? = some p8 by rw [List.map_append,List.getElem?_append_left (by rw [List.length_map];exact hkL)];exact HP'.out)
    obtain ⟨s1,hs1⟩:∃ s1,pushD s' k d c1' = s1:=⟨_,rfl⟩
    rw [hs1] at HSS HAL HS1 HA14
    generalize L' ++ [(⟨pn,.slice A7 c1'.length c7,.slice none 0 0,{ w:=gw,h:=gh,grid:=c1',text:=txG gw gh c1',far:=((fk + 1:Nat):Int),words:=0,before:=k,dir:=d,next:=[] }⟩:NodeM)] = L1 at HA14 HP1
    generalize Q' ++ [0] = Q1 at HA14 HSS
    obtain ⟨bk3,o3,ck3,hv3,-,-,-⟩:=HA14.out.opens
    subst hv3
    refine hK'.out _ _ ⟨(blk_cell hb87 0).trans rfl,(blk_cell hb87 1).trans rfl,(blk_cell hb87 2).trans rfl,zq4⟩ (fun hHeld=>?_)
    clear hK' K' ho hb hg hat hpk h8 h87 hb87 zq4 hs1 HOK
    refine nm (some 70) ?_
    refine take_ (i:=14) (N:=some 6) (v:=?_) (a':=?_) (bm 15 32767) rfl rfl k_r (fun _ _ _ h=>h) (Or.inl ⟨by rfl,?_⟩) hHeld ?_ ?_
    rotate_left
    ·rintro w' ⟨s0,s1_,s2,s3⟩
     go_simp
     try with_reducible rfl
    rotate_left
    ·simp only [Act.put,ac_]
     rfl
    clear hHeld
    refine done_ k_r ?_
    generalize s'.T.length = a at HSS HAL ⊢
    have haL:a < L1.length:=by rw [HA14.out.len];exact HAL.out
    have hkL1:k < L1.length:=by rw [HA14.out.len];exact HS1.out.2.1
    obtain ⟨bk2,o2,ck2,hv2,hck2,hptr2,-⟩:=HA14.out.opens
    injection hv2 with e1 _ e2;injection e1 with e1;injection e1 with e1 e3;subst e1 e2 e3
    obtain ⟨pa,hpa⟩:∃ pa,(L1[a]'haL).p = pa:=⟨_,rfl⟩
    have hpk1:(L1[k]'hkL1).p = p8:=by
     have:=HP1.out
     rw [List.getElem?_map,List.getElem?_eq_getElem hkL1] at this
     exact Option.some.inj this
    have zpa:=hptr2 a haL
    rw [hpa] at zpa
    have hba:=HA14.out.blk haL
    have hbk:=HA14.out.blk hkL1
    rw [hpa] at hba
    rw [hpk1] at hbk
    unfold NodeM.cells at hba hbk
    rw [HA14.out.node haL] at hba
    rw [HA14.out.node hkL1] at hbk
    have za4:w7.cell? ⟨pa,4,none⟩ = some (.int .i64 ((s1.F.getD a 0:Nat):Int)):=(blk_cell hba 4).trans rfl
    have za5:w7.cell? ⟨pa,5,none⟩ = some (.int .i64 (Q1.getD a 0)):=(blk_cell hba 5).trans rfl
    have zk4:w7.cell? ⟨p8,4,none⟩ = some (.int .i64 ((s1.F.getD k 0:Nat):Int)):=(blk_cell hbk 4).trans rfl
    have zk5:w7.cell? ⟨p8,5,none⟩ = some (.int .i64 (Q1.getD k 0)):=(blk_cell hbk 5).trans rfl
    have faf:=blk_frozen hba 5
    have haI:((a:Nat):Int) < (s1.T.length:Int):=by have:=HAL.out;omega
    have hfk:=far_le HA14.out.ok HS1.out.2.1
    have hwf:IntKind.i64.wrap (((s1.F.getD k 0:Nat):Int) + 1) = ((s1.F.getD k 0 + 1:Nat):Int):=by rw [IntKind.wrap_i64];have:=HA14.out.ok.most;have:=HS1.out.2.1;omega
    have HADD:=am (show addW s1.F k Q1 a = if s1.F.getD a 0 = s1.F.getD k 0 + 1 then Q1.set a (wrap64 (Q1.getD a 0 + Q1.getD k 0)) else Q1 from rfl)
    obtain ⟨fa,hfa⟩:∃ fa,s1.F.getD a 0 = fa:=⟨_,rfl⟩
    obtain ⟨fk,hfk'⟩:∃ fk,s1.F.getD k 0 = fk:=⟨_,rfl⟩
    obtain ⟨qa,hqa⟩:∃ qa,Q1.getD a 0 = qa:=⟨_,rfl⟩
    obtain ⟨qk,hqk⟩:∃ qk,Q1.getD k 0 = qk:=⟨_,rfl⟩
    rw [hfa] at za4
    rw [hfk'] at zk4 hwf
    rw [hqa] at za5
    rw [hqk] at zk5
    rw [hfa,hfk',hqa,hqk] at HADD
    have HPA:=am hpa
    have HPK1:=am hpk1
    have HAL2:=am haL
    have HKL1:=am hkL1
    clear hba hbk hptr2 hck2 hfk hfa hfk' hqa hqk hpa hpk1
    by_cases hfe:fa = fk + 1
    rotate_left
    ·have hfe2:(((fa:Nat):Int) == ((fk + 1:Nat):Int)) = false:=beq_eq_false_iff_ne.2 o_m
     have HSS2:=am (show seeAllQ gw gh k ([0,1,2,3].drop (d + 1)) s1 Q1 (P ++ [a]) = seeAllQ gw gh k [0,1,2,3] s Q [] by rw [← HSS.out,HADD.out,if_neg hfe])
     clear hfe
     go_wp2
     go_region_held3 (fun w'=>w'.cell? ⟨bk3,o3 + a,none⟩ = some (.pointer (some ⟨pa,0,none⟩)) ∧ w'.cell? ⟨pa,4,none⟩ = some (.int .i64 ((fa:Nat):Int)) ∧ w'.cell? ⟨p8,4,none⟩ = some (.int .i64 ((fk:Nat):Int))) (first | go_keep)
      ((first | fail))
     have HA12:=am (HA14.out.below (below_drew1 (Below.refl _ _)))
     clear zpa za4 za5 zk4 zk5 faf hwf HSS HADD
     generalize w7.drew = wd at HA12 ⊢
     have hkL2:k < L1.length:=by rw [HA12.out.len];exact HS1.out.2.1
     have hpk2:(L1[k]'hkL2).p = p8:=by
      have:=HP1.out
      rw [List.getElem?_map,List.getElem?_eq_getElem hkL2] at this
      exact Option.some.inj this
     have hbk2:=HA12.out.blk hkL2
     rw [hpk2] at hbk2
     unfold NodeM.cells at hbk2
     have hnx:=(HA12.out.nd.at_ _ (List.getElem_mem hkL2)).next
     have hnl:(L1[k]'hkL2).n.next.length = P.length:=by
      rw [HA12.out.node hkL2]
      show (castsI (if k < s1.N.length then s1.N.getD k [] else if k = s1.N.length then P else [])).length = _
      rw [if_neg (by rw [HS1.out.1,HNK.out];omega),if_pos (by rw [HS1.out.1,HNK.out]),castsI_length]
     obtain ⟨An,cn,hxv⟩:=Kd.R_slice hnx
     rw [hxv] at hbk2 hnx
     have zk8:wd.cell? ⟨p8,8,none⟩ = some (.slice An (L1[k]'hkL2).n.next.length cn):=(blk_cell hbk2 8).trans rfl
     have HXV:=am hxv
     have HNX:=am hnx
     have HBK2:=am hbk2
     have HPK2:=am hpk2
     have HL8:=am (show ((L1[k]'hkL2).n.next.length + 1) * 8 ≤ 140737488355328 by rw [hnl,HPL.out];have:=HD4.out;omega)
     have hw1:IntKind.i64.wrap ((d:Int) + 1) = ((d + 1:Nat):Int):=by rw [IntKind.wrap_i64];have:=HD4.out;omega
     clear hxv hnx hbk2 hpk2
     generalize hnn:(L1[k]'hkL2).n.next = nx at *
     have HNN:=am hnn
     clear hnn hnl
     go_wp2_with (first
      | ((with_reducible refine gate_builtin (b:=.append) (xs:=#[.tmp 102,.tmp 104]) rfl ?_);at_builtin;refine Kd.R_append (Kd.int .i64) (w0:=w) w.heap.size rfl (.tmp 102) (.tmp 104) 40 3 (.int .i64 0) 8 rfl Tryz.underlying40 info3 rfl d_c o_m (.slice An nx.length cn) nx (a:Int) [.int .i64 a] (fun _=>True) (fun _=>False) rfl rfl ?aP (fun _ hk=>hk.elim) ?aF ?aO ?aB ?aS ?aL ?_;(case aP=>exact rfl);(case aB=>exact HA12.out.bel);(case aF=>exact (fun _ _=>trivial));(case aO=>exact HNX.out);(case aS=>exact HA12.out.bel.size);(case aL=>exact HL8.out);intro v7 w7 ho7 hb7 hg7 hat7;obtain ⟨A7',c7',hv7⟩:=Kd.R_slice ho7;obtain ⟨n7,hn7⟩:∃ n7,(nx ++ [(a:Int)]).length = n7:=⟨_,rfl⟩;rw [hn7] at hv7;subst hv7;have hbk7:=blk_grown HBK2.out hg7 (Kd.R_ne HNX.out HBK2.out d_c);have zk8':w7.cell? ⟨p8,8,none⟩ = some (.slice An nx.length cn):=(blk_cell hbk7 8).trans (by first | rfl | (rw [HNN.out];rfl));have fk8:=blk_frozen hbk7 8;have HO7:=am ho7;have HB7:=am hb7;have HG7:=am hg7;have HAT7:=am hat7;clear ho7 hb7 hg7 hat7 hbk7 zk8))
     go_roundw
     case rel =>
      have hway:=HA12.out.way (x:=a) (by rw [HS1.out.1];exact HNK.out) hkL2 (v':=.slice A7' n7 c7') (w1:=w7) (by rw [HNN.out];exact HO7.out) (by rw [HXV.out];exact HG7.out) HB7.out (by rw [HXV.out];exact HAT7.out)
      rw [HPK2.out] at hway
      refine ⟨d + 1,s1,_,P ++ [a],_,by have:=HD4.out;omega,by first | rfl | simp,by rw [List.length_append,HPL.out];rfl,HSS2,⟨HS1.out.1,HS1.out.2.1,HS1.out.2.2.1,fun x hx=>?_⟩,⟨?_⟩,⟨hway⟩⟩
      ·rcases List.mem_append.1 hx with hx | hx
       ·exact HS1.out.2.2.2 x hx
       ·rw [List.mem_singleton.1 hx];exact HAL.out
      ·rw [show (⟨p8,(L1[k]'hkL2).g,.slice A7' n7 c7',_⟩:NodeM) = ⟨(L1[k]'hkL2).p,(L1[k]'hkL2).g,.slice A7' n7 c7',_⟩ from by rw [HPK2.out],map_p_set];exact HP1.out
     case measure=>have:=HD4.out;simp [intOf];omega
    subst hfe
    have hfe:(((fk + 1:Nat):Int) == ((fk + 1:Nat):Int)) = true:=beq_self_eq_true _
    go_wp2
    go_region_held3 (fun w'=>w'.cell? ⟨bk3,o3 + a,none⟩ = some (.pointer (some ⟨pa,0,none⟩)) ∧ w'.cell? ⟨pa,4,none⟩ = some (.int .i64 ((fk + 1:Nat):Int)) ∧ w'.cell? ⟨p8,4,none⟩ = some (.int .i64 ((fk:Nat):Int))) (first | go_keep)
     ((first | fail))
    have ypa:w7.drew.cell? ⟨bk3,o3 + a,none⟩ = some (.pointer (some ⟨pa,0,none⟩)):=zpa
    have ya5:w7.drew.cell? ⟨pa,5,none⟩ = some (.int .i64 qa):=za5
    have yk5:w7.drew.cell? ⟨p8,5,none⟩ = some (.int .i64 qk):=zk5
    have yaf:w7.drew.frozen? ⟨pa,5,none⟩ = false:=faf
    have HA12:=am (HA14.out.below (below_drew1 (Below.refl _ _)))
    clear zpa za4 za5 zk4 zk5 faf hwf
    generalize w7.drew = wd at ypa ya5 yk5 yaf HA12 ⊢
    go_wp2
    go_still_tail 14,k_r
    change wpList _ _ _ _ _ wd.drew
    have HA13:=am ((HA12.out.below (below_drew1 (Below.refl _ _))).words HAL2.out (wrap64 (qa + qk)))
    rw [HPA.out] at HA13
    have xa5:wd.drew.cell? ⟨pa,5,none⟩ = some (.int .i64 qa):=ya5
    have xaf:wd.drew.frozen? ⟨pa,5,none⟩ = false:=yaf
    generalize wd.drew = we at xa5 xaf HA13 ⊢
    refine store_event (t:=3) (p:=97) (v:=.tmp 95) (w1:=we.setCell ⟨pa,5,none⟩ (.int .i64 (wrap64 (qa + qk)))) ?hg ?ho ?hn ?hr ?_
    case ho=>rfl
    case hg=>rfl
    case hn=>rfl
    case hr=>first | (go_simp;done) | (go_simp;simp only [i64_w];done) | (go_simp;simp only [i64_w];rfl)
    intro wf hwf
    rw [← hwf] at HA13
    clear hwf
    have HP2:=am (show ((L1.set a ⟨pa,(L1[a]'HAL2.out).g,(L1[a]'HAL2.out).x,{ (L1[a]'HAL2.out).n with words:=wrap64 (qa + qk) }⟩).map NodeM.p)[k]? = some p8 by rw [← HPA.out,map_p_set];exact HP1.out)
    generalize L1.set a ⟨pa,(L1[a]'HAL2.out).g,(L1[a]'HAL2.out).x,{ (L1[a]'HAL2.out).n with words:=wrap64 (qa + qk) }⟩ = L2 at HA13 HP2
    have HSS2:=am (show seeAllQ gw gh k ([0,1,2,3].drop (d + 1)) s1 (Q1.set a (wrap64 (qa + qk))) (P ++ [a]) = seeAllQ gw gh k [0,1,2,3] s Q [] by rw [← HSS.out,HADD.out];simp)
    clear HP1 HADD HSS xa5 xaf hfe HA12 HA14
    have hkL2:k < L2.length:=by rw [HA13.out.len];exact HS1.out.2.1
    have hpk2:(L2[k]'hkL2).p = p8:=by
     have:=HP2.out
     rw [List.getElem?_map,List.getElem?_eq_getElem hkL2] at this
     exact Option.some.inj this
    have hbk2:=HA13.out.blk hkL2
    rw [hpk2] at hbk2
    unfold NodeM.cells at hbk2
    have hnx:=(HA13.out.nd.at_ _ (List.getElem_mem hkL2)).next
    have hnl:(L2[k]'hkL2).n.next.length = P.length:=by
     rw [HA13.out.node hkL2]
     show (castsI (if k < s1.N.length then s1.N.getD k [] else if k = s1.N.length then P else [])).length = _
     rw [if_neg (by rw [HS1.out.1,HNK.out];omega),if_pos (by rw [HS1.out.1,HNK.out]),castsI_length]
    obtain ⟨An,cn,hxv⟩:=Kd.R_slice hnx
    rw [hxv] at hbk2 hnx
    have zk8:wf.cell? ⟨p8,8,none⟩ = some (.slice An (L2[k]'hkL2).n.next.length cn):=(blk_cell hbk2 8).trans rfl
    have HXV:=am hxv
    have HNX:=am hnx
    have HBK2:=am hbk2
    have HPK2:=am hpk2
    have HL8:=am (show ((L2[k]'hkL2).n.next.length + 1) * 8 ≤ 140737488355328 by rw [hnl,HPL.out];have:=HD4.out;omega)
    have hw1:IntKind.i64.wrap ((d:Int) + 1) = ((d + 1:Nat):Int):=by rw [IntKind.wrap_i64];have:=HD4.out;omega
    clear hxv hnx hbk2 hpk2
    generalize hnn:(L2[k]'hkL2).n.next = nx at *
    have HNN:=am hnn
    clear hnn hnl
    go_wp2_with (first
     | ((with_reducible refine gate_builtin (b:=.append) (xs:=#[.tmp 102,.tmp 104]) rfl ?_);at_builtin;refine Kd.R_append (Kd.int .i64) (w0:=w) w.heap.size rfl (.tmp 102) (.tmp 104) 40 3 (.int .i64 0) 8 rfl Tryz.underlying40 info3 rfl d_c o_m (.slice An nx.length cn) nx (a:Int) [.int .i64 a] (fun _=>True) (fun _=>False) rfl rfl ?aP (fun _ hk=>hk.elim) ?aF ?aO ?aB ?aS ?aL ?_;(case aP=>exact rfl);(case aB=>exact HA13.out.bel);(case aF=>exact (fun _ _=>trivial));(case aO=>exact HNX.out);(case aS=>exact HA13.out.bel.size);(case aL=>exact HL8.out);intro v7 w7 ho7 hb7 hg7 hat7;obtain ⟨A7',c7',hv7⟩:=Kd.R_slice ho7;obtain ⟨n7,hn7⟩:∃ n7,(nx ++ [(a:Int)]).length = n7:=⟨_,rfl⟩;rw [hn7] at hv7;subst hv7;have hbk7:=blk_grown HBK2.out hg7 (Kd.R_ne HNX.out HBK2.out d_c);have zk8':w7.cell? ⟨p8,8,none⟩ = some (.slice An nx.length cn):=(blk_cell hbk7 8).trans (by first | rfl | (rw [HNN.out];rfl));have fk8:=blk_frozen hbk7 8;have HO7:=am ho7;have HB7:=am hb7;have HG7:=am hg7;have HAT7:=am hat7;clear ho7 hb7 hg7 hat7 hbk7 zk8))
    go_roundw
    case rel =>
     have hway:=HA13.out.way (x:=a) (by rw [HS1.out.1];exact HNK.out) hkL2 (v':=.slice A7' n7 c7') (w1:=w7) (by rw [HNN.out];exact HO7.out) (by rw [HXV.out];exact HG7.out) HB7.out (by rw [HXV.out];exact HAT7.out)
     rw [HPK2.out] at hway
     refine ⟨d + 1,s1,_,P ++ [a],_,by have:=HD4.out;omega,by first | rfl | simp,by rw [List.length_append,HPL.out];rfl,HSS2,⟨HS1.out.1,HS1.out.2.1,HS1.out.2.2.1,fun x hx=>?_⟩,⟨?_⟩,⟨hway⟩⟩
     ·rcases List.mem_append.1 hx with hx | hx
      ·exact HS1.out.2.2.2 x hx
      ·rw [List.mem_singleton.1 hx];exact HAL.out
     ·rw [show (⟨p8,(L2[k]'hkL2).g,.slice A7' n7 c7',_⟩:NodeM) = ⟨(L2[k]'hkL2).p,(L2[k]'hkL2).g,.slice A7' n7 c7',_⟩ from by rw [HPK2.out],map_p_set];exact HP2.out
    case measure=>have:=HD4.out;simp [intOf];omega
end Go.Proofs.YtldhkbiomingbaaGreatDoor.F
