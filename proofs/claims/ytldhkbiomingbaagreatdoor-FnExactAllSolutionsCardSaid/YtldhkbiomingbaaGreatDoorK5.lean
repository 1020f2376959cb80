/- The proof that the law's row holds, part 5: the kit's words, the printed walks and the plain law. No conditions beyond the card's own. -/
import Derived.Deep.RegionHeld3
import Derived.StillTailTactics
import Derived.Test.YtldhkbiomingbaaGreatDoorK0
import Derived.Test.YtldhkbiomingbaaGreatDoorK1
import Derived.Test.YtldhkbiomingbaaGreatDoorK2
import Derived.Test.YtldhkbiomingbaaGreatDoorK3
import Derived.Test.YtldhkbiomingbaaGreatDoorK4
set_option linter.unusedVariables false
set_option linter.unusedSimpArgs false
set_option maxHeartbeats 8000000
set_option maxRecDepth 100000
namespace Go.Proofs.YtldhkbiomingbaaGreatDoor.F
open Go.Proofs.YtldhkbiomingbaaGreatDoor
open Go.RowKit Go.YW.PrintWords Go.YW.PrintLast Go.YW.PrintMore Go.Lib
attribute [local go_sem] max2_int min2_int
theorem place_call {W:World} {Ag:Option Addr} {cg:Nat} {cs:List Int} (hl:cs.length ≤ 1000) (hc:cs.length ≤ cg) (hC:(Kd.int .u8).C W Ag cs.length cs) (w h n:Int) :
  Calls Tryz.prog 56 #[.agg #[.int .i64 w,.int .i64 h,.slice Ag cs.length cg],.int .u8 n] W fun e w'=>e = .returned (.int .i64 (placeI n cs)) ∧ Below W.heap.size W w':=by
 obtain ⟨K,hK⟩:=tiPlace_ev hl w h n
 exact spec_tiPlace.calls K w h Ag cg cs n _ W hC hc (hK K (Nat.le_refl _))
def StateC (W:World) (b o i:Nat) (w h:Nat) (s:RS):Prop:=∃ p Ag cg Ax cx,W.cell? ⟨b,o + i,none⟩ = some (.pointer (some ⟨p,0,none⟩)) ∧
 W.cell? ⟨p,0,none⟩ = some (.int .i64 w) ∧ W.cell? ⟨p,1,none⟩ = some (.int .i64 h) ∧ W.cell? ⟨p,2,none⟩ = some (.slice Ag (s.T.getD i []).length cg) ∧ W.cell? ⟨p,3,none⟩ = some (.string (textB (w,h,s.T.getD i []))) ∧ W.cell? ⟨p,4,none⟩ = some (.int .i64 ((s.F.getD i 0:Nat):Int)) ∧
 W.cell? ⟨p,5,none⟩ = some (.int .i64 ((waysL s).getD i 0)) ∧ W.cell? ⟨p,8,none⟩ = some (.slice Ax (s.N.getD i []).length cx) ∧
 (s.T.getD i []).length ≤ cg ∧ (Kd.int .u8).C W Ag (s.T.getD i []).length (s.T.getD i []) ∧ (Kd.int .i64).C W Ax (s.N.getD i []).length (castsI (s.N.getD i [])) ∧ (s.T.getD i []).length ≤ 1000
theorem nodesOf_get {w h:Nat} {s:RS} {i:Nat} (hi:i < (nodesOf w h s).length):(nodesOf w h s)[i] = nodeF (txG w h) w h s (waysL s) [] i:=nodesL_get hi
theorem state_of {W:World} {b o i w h:Nat} {cs:List Int} {s:RS} (o2:RS.Ok2 w h cs s.T.length s) (hi:i < (nodesOf w h s).length) (hn:NodeC W b o i ((nodesOf w h s)[i]'hi)):StateC W b o i w h s:=by
 rw [nodesOf_get] at hn
 have hil:i < s.T.length:=by rw [nodesOf_len] at hi;exact hi
 obtain ⟨p,Ag,cg,Ax,cx,zp,z0,z1,z2,z3,z4,z5,z6,z7,z8,h1,h2,h3,h4⟩:=hn
 have hnx:(nodeF (txG w h) w h s (waysL s) [] i).next = castsI (s.N.getD i []):=by
  show castsI (if i < s.N.length then s.N.getD i [] else if i = s.N.length then [] else []) = _
  rw [if_pos (by rw [o2.lN];exact hil)]
 rw [hnx,castsI_length] at z8 h4
 have v:=o2.ok.tray _ (getD_mem (d:=([]:List Int)) hil)
 have hs:=(tray_small v).2
 exact ⟨p,Ag,cg,Ax,cx,zp,z0,z1,z2,z3,z4,z5,z8,h1,h2,h4,Nat.le_trans hs d_c⟩
theorem states_open {w1:World} {base:Nat} {v:Value} {w h:Nat} {cs:List Int} {s:RS} (o2:RS.Ok2 w h cs s.T.length s) (hR:Kd.R (ptrK 77 nodeK) 73 w1 base (fun _=>True) v (nodesOf w h s)) :
  ∃ b o c,v = .slice (some ⟨b,o,none⟩) s.T.length c ∧ s.T.length ≤ c ∧ ∀ W',Below w1.heap.size w1 W' → ∀ i,i < s.T.length → StateC W' b o i w h s:=by
 obtain ⟨b,o,c,e,hc,_,hat⟩:=nodes_open hR (nodesOf_ne o2.ok)
 rw [nodesOf_len] at e hc
 exact ⟨b,o,c,e,hc,fun W' hB i hi=>state_of o2 (by rw [nodesOf_len];exact hi) (hat W' hB i (by rw [nodesOf_len];exact hi))⟩
def PuAns (t n:ByteArray) (goal:Int) (v:Value) (w':World) (base:Nat):Prop :=
 (puS t n goal = none ∧ v = .slice none 0 0) ∨ ∃ w h s i,puS t n goal = some (w,h,s,i) ∧ Kd.R (ptrK 77 nodeK) 73 w' base (fun _=>True) v (nodesOf w h s)
theorem name_byte {n:ByteArray} (h:oneName n = true):n.size = 1:=by
 unfold oneName at h
 rw [Bool.and_eq_true] at h
 exact of_decide_eq_true h.1
theorem puz_name {t n:ByteArray} {goal:Int} (h:puzB t n goal = true):oneName n = true:=by
 unfold puzB at h
 split at h
 ·cases h
 ·split at h
  ·rename_i hh;exact hh.1
  ·cases h
theorem puStates_calls (t nm:ByteArray) (goal r1:Int) (r2:Bool) (hr:puFar t nm goal = (r1,r2)) (w:World) :
  Calls Tryz.prog 53 #[.agg #[.string t,.string nm,.int .i64 goal]] w fun e w'=>∃ v,e = .returned (.tuple #[v,.int .i64 r1,.bool r2]) ∧ PuAns t nm goal v w' w.heap.size ∧ Below w.heap.size w w':=by
 obtain ⟨K,hK⟩:=spec_puGood_ev t nm goal
 have HGD:=am (hK K (Nat.le_refl _))
 have HB:=am (Below.refl w.heap.size w)
 have HR:=am hr
 clear hK hr
 cases hp:puzB t nm goal with
 | false =>
  rw [hp] at HGD
  have HN:=am (show puS t nm goal = none by unfold puS;rw [hp];rfl)
  obtain ⟨rfl,rfl⟩:0 = r1 ∧ false = r2:=by have h:=HR.out;unfold puFar at h;rw [HN.out] at h;injection h with h1 h2;exact ⟨h1,h2⟩
  go_enter Tryz.func53,Tryz.ntmps53
  go_wp2_with (first
   | (refine bx 1 #[.string t,.string nm,.int .i64 goal] 30 ?_;intro b1 hg1 w1 hbox1 hb1;have z0:w1.cell? ⟨b1,0,none⟩ = some (.string t):=(blk_cell hbox1 0).trans rfl;have z1:w1.cell? ⟨b1,1,none⟩ = some (.string nm):=(blk_cell hbox1 1).trans rfl;have z2:w1.cell? ⟨b1,2,none⟩ = some (.int .i64 goal):=(blk_cell hbox1 2).trans rfl;have HB1:=am (below_step HB.out hb1);clear hg1 hbox1 hb1)
   | (go_at_call 92;refine (spec_puGood.calls K t nm goal _ _ HGD.out).mono ?_;rintro e w2 ⟨rfl,hb2⟩;have HB2:=am (below_step HB1.out hb2);clear hb2 z0 z1 z2))
  go_ret3
  exact ⟨_,rfl,.inl ⟨HN.out,rfl⟩,HB2.out⟩
 | true =>
  rw [hp] at HGD
  have HP:=am hp
  have HSZ:=am (name_byte (puz_name hp))
  clear hp
  cases hs:srch t with
  | none =>
   have HN:=am (show puS t nm goal = none by unfold puS;rw [if_pos HP.out,hs];rfl)
   have HS:=am (show (srch t).isSome = false by rw [hs];rfl)
   obtain ⟨rfl,rfl⟩:0 = r1 ∧ false = r2:=by have h:=HR.out;unfold puFar at h;rw [HN.out] at h;injection h with h1 h2;exact ⟨h1,h2⟩
   clear hs
   go_enter Tryz.func53,Tryz.ntmps53
   go_wp2_with (first
    | (refine bx 1 #[.string t,.string nm,.int .i64 goal] 30 ?_;intro b1 hg1 w1 hbox1 hb1;have z0:w1.cell? ⟨b1,0,none⟩ = some (.string t):=(blk_cell hbox1 0).trans rfl;have z1:w1.cell? ⟨b1,1,none⟩ = some (.string nm):=(blk_cell hbox1 1).trans rfl;have z2:w1.cell? ⟨b1,2,none⟩ = some (.int .i64 goal):=(blk_cell hbox1 2).trans rfl;have X1:=am hbox1;have HB1:=am (below_step HB.out hb1);clear hg1 hbox1 hb1)
    | (go_at_call 92;refine (spec_puGood.calls K t nm goal _ _ HGD.out).mono ?_;rintro e w2 ⟨rfl,hb2⟩;have y0:w2.cell? ⟨b1,0,none⟩ = some (.string t):=(blk_cell (blk_below X1.out hb2) 0).trans rfl;have HB2:=am (below_step HB1.out hb2);clear hb2 z0 z1 z2)
    | (go_at_call 72;refine (reAll_calls t false HS.out _).mono ?_;rintro e w3 ⟨v3,rfl,ha3,hb3⟩;have HB3:=am (below_step HB2.out hb3);clear ha3 hb3))
   go_ret3
   exact ⟨_,rfl,.inl ⟨HN.out,rfl⟩,HB3.out⟩
  | some q =>
   obtain ⟨gw,gh,s⟩:=q
   obtain ⟨cs,_,_,_,_,o2⟩:=srch_some hs
   have HS:=am (show (srch t).isSome = true by rw [hs];rfl)
   have HSR:=am hs
   have HO2:=am o2
   have hnm:(0:Int) < (nm.size:Int):=by have:=HSZ.out;omega
   have hnm2:0 < nm.size:=by have:=HSZ.out;omega
   have hbt:∀ h:0 < nm.size,((nm[0]'h).toNat:Int) = bt nm 0:=bt_at nm 0
   have hq0:((0:Int) < (nm.size:Int)) = True:=eq_true hnm
   clear hs o2
   go_enter Tryz.func53,Tryz.ntmps53
   go_wp2_with (first
    | (refine bx 1 #[.string t,.string nm,.int .i64 goal] 30 ?_;intro b1 hg1 w1 hbox1 hb1;have z0:w1.cell? ⟨b1,0,none⟩ = some (.string t):=(blk_cell hbox1 0).trans rfl;have z1:w1.cell? ⟨b1,1,none⟩ = some (.string nm):=(blk_cell hbox1 1).trans rfl;have z2:w1.cell? ⟨b1,2,none⟩ = some (.int .i64 goal):=(blk_cell hbox1 2).trans rfl;have X1:=am hbox1;have HB1:=am (below_step HB.out hb1);clear hg1 hbox1 hb1)
    | (go_at_call 92;refine (spec_puGood.calls K t nm goal _ _ HGD.out).mono ?_;rintro e w2 ⟨rfl,hb2⟩;have y0:w2.cell? ⟨b1,0,none⟩ = some (.string t):=(blk_cell (blk_below X1.out hb2) 0).trans rfl;have X2:=am (blk_below X1.out hb2);have HB2:=am (below_step HB1.out hb2);clear hb2 z0 z1 z2)
    | (go_at_call 72;refine (reAll_calls t true HS.out _).mono ?_;rintro e w3 ⟨v3,rfl,ha3,hb3⟩;have HA3:=am ha3;have X3:=am (blk_below X2.out hb3);have HB3:=am (below_step HB2.out hb3);have HW2:=am HB2.out.size;clear ha3 hb3 y0;obtain ⟨b,o,c,hv3,hst⟩:∃ b o c,v3 = .slice (some ⟨b,o,none⟩) s.T.length c ∧ ((∀ W',Below w3.heap.size w3 W' → ∀ i,i < s.T.length → StateC W' b o i gw gh s) ∧ Kd.R (ptrK 77 nodeK) 73 w3 w.heap.size (fun _=>True) v3 (nodesOf gw gh s)):=(by rcases HA3.out with ⟨h,_⟩ | ⟨w',h',s',h,hR⟩;exact absurd (h.symm.trans HSR.out) (by simp);rw [HSR.out] at h;injection h with h;injection h with h1 h2;injection h2 with h2 h3;subst h1 h2 h3;obtain ⟨b,o,c,e,_,hat⟩:=states_open HO2.out hR;exact ⟨b,o,c,e,hat,Kd.R_lower hR HW2.out⟩);subst hv3;have HST:=am hst;clear hst HA3 HW2))
   go_loopw [22] (fun v22 wr=>∃ i:Nat,i ≤ s.T.length ∧ v22 = .int .i64 i ∧ Aside0 (∀ j,j < i → j < s.T.length → placeI (bt nm 0) (s.T.getD j []) ≠ goal) ∧ Aside0 (Below w3.heap.size w3 wr)) (fun v22 _=>s.T.length - (intOf v22).toNat)
   case atStart=>exact ⟨0,Nat.zero_le _,rfl,⟨fun j hj=>absurd hj (Nat.not_lt_zero j)⟩,⟨Below.refl _ _⟩⟩
   case round =>
    obtain ⟨i,hi,rfl,HF,HQ⟩:=hrel
    by_cases hlt:i < s.T.length
    rotate_left
    ·have hge:¬ (i:Int) < (s.T.length:Int):=by omega
     obtain rfl:i = s.T.length:=by omega
     have hno:=goalAt_none (fun j hj=>HF.out j hj hj)
     have HN:=am (show puS t nm goal = none by
      unfold puS
      rw [if_pos HP.out,HSR.out]
      show (if goalAt s (bt nm 0) goal < s.T.length then _ else none) = none
      rw [if_neg (by rw [hno];omega)])
     obtain ⟨rfl,rfl⟩:0 = r1 ∧ false = r2:=by have h:=HR.out;unfold puFar at h;rw [HN.out] at h;injection h with h1 h2;exact ⟨h1,h2⟩
     clear hno
     go_wp2
     go_ret3
     exact ⟨_,rfl,.inl ⟨HN.out,rfl⟩,below_step HB3.out HQ.out⟩
    have hltI:(i:Int) < (s.T.length:Int):=by omega
    obtain ⟨p,Ag,cg,Ax,cx,zp,z0,z1,z2,_,z4,_,_,hcg,hCg,_,hl⟩:=HST.out.1 wr HQ.out i hlt
    have y1:wr.cell? ⟨b1,1,none⟩ = some (.string nm):=(blk_cell (blk_below X3.out HQ.out) 1).trans rfl
    have y2:wr.cell? ⟨b1,2,none⟩ = some (.int .i64 goal):=(blk_cell (blk_below X3.out HQ.out) 2).trans rfl
    have HL:=am hlt
    have HCG:=am (And.intro hcg (And.intro hCg hl))
    have hw1:IntKind.i64.wrap ((i:Int) + 1) = ((i + 1:Nat):Int):=by rw [IntKind.wrap_i64];have:=HO2.out.ok.most;omega
    obtain ⟨cg0,hcg0⟩:∃ c,s.T.getD i [] = c:=⟨_,rfl⟩
    obtain ⟨fi,hfi⟩:∃ f,s.F.getD i 0 = f:=⟨_,rfl⟩
    rw [hcg0] at z2 HCG
    rw [hfi] at z4
    have HC0:=am hcg0
    have HFI:=am hfi
    clear hcg hCg hl hlt hi hcg0 hfi
    have hz:wr.cell? ⟨p,0,none⟩ = some (.int .i64 gw) ∧ wr.cell? ⟨p,1,none⟩ = some (.int .i64 gh) ∧ wr.cell? ⟨p,2,none⟩ = some (.slice Ag cg0.length cg) ∧ wr.cell? ⟨b1,1,none⟩ = some (.string nm) ∧ wr.cell? ⟨b1,2,none⟩ = some (.int .i64 goal):=⟨z0,z1,z2,y1,y2⟩
    have HZ:=am hz
    have HZ4:=am z4
    clear hz z0 z1 z2 y1 y2 z4
    go_wp2
    go_region_held3 (fun w'=>w'.cell? ⟨p,0,none⟩ = some (.int .i64 gw) ∧ w'.cell? ⟨p,1,none⟩ = some (.int .i64 gh) ∧ w'.cell? ⟨p,2,none⟩ = some (.slice Ag cg0.length cg) ∧ w'.cell? ⟨b1,1,none⟩ = some (.string nm) ∧ w'.cell? ⟨b1,2,none⟩ = some (.int .i64 goal)) (first | exact HZ.out | exact HZ1.out | go_keep)
     ((first
      | (go_simp;go_at_call 56;refine (place_call HCG.out.2.2 HCG.out.1 (by exact HCG.out.2.1) _ _ _).mono ?_;rintro e w4 ⟨rfl,hb4⟩;have HB4:=am (show Below wr.heap.size wr w4 from ⟨hb4.os,hb4.tape,hb4.output,hb4.size,hb4.block⟩);have HZ1:Aside0 (_ ∧ _ ∧ _ ∧ _ ∧ _):=⟨by have hh:=HZ.out;exact ⟨(HB4.out.cell (World.block_lt_of_cell? wr _ hh.1)).trans hh.1,(HB4.out.cell (World.block_lt_of_cell? wr _ hh.2.1)).trans hh.2.1,(HB4.out.cell (World.block_lt_of_cell? wr _ hh.2.2.1)).trans hh.2.2.1,(HB4.out.cell (World.block_lt_of_cell? wr _ hh.2.2.2.1)).trans hh.2.2.2.1,(HB4.out.cell (World.block_lt_of_cell? wr _ hh.2.2.2.2)).trans hh.2.2.2.2⟩⟩;clear hb4)))
    have HQ4:=am (below_step HQ.out HB4.out)
    obtain ⟨pl,hpl⟩:∃ pl,placeI (bt nm 0) cg0 = pl:=⟨_,rfl⟩
    rw [hpl]
    by_cases he:pl = goal
    rotate_left
    ·have heb:(pl == goal) = false:=beq_eq_false_iff_ne.2 he
     have HNO:=am (fun j hj hjl=>by
      by_cases e:j = i
      ·subst e;rw [HC0.out,hpl];exact he
      ·exact HF.out j o_m hjl:∀ j,j < i + 1 → j < s.T.length → placeI (bt nm 0) (s.T.getD j []) ≠ goal)
     clear hpl he
     go_wp2
     go_roundw
     case rel=>exact ⟨i + 1,HL.out,by first | rfl | simp,HNO,HQ4⟩
     case measure=>have:=HL.out;simp [intOf];omega
    have heb:(pl == goal) = true:=beq_iff_eq.2 he
    have z4:w4.cell? ⟨p,4,none⟩ = some (.int .i64 (fi:Int)):=(HB4.out.cell (World.block_lt_of_cell? wr _ HZ4.out)).trans HZ4.out
    have hat:goalAt s (bt nm 0) goal = i:=goalAt_of HF.out HL.out (by rw [HC0.out,hpl,he])
    have HPS:=am (show puS t nm goal = some (gw,gh,s,i) by
     unfold puS
     rw [if_pos HP.out,HSR.out]
     show (if goalAt s (bt nm 0) goal < s.T.length then some (gw,gh,s,goalAt s (bt nm 0) goal) else none) = _
     rw [hat,if_pos HL.out])
    obtain ⟨rfl,rfl⟩:(fi:Int) = r1 ∧ decide (fi ≤ 40) = r2:=by
     have h:=HR.out
     unfold puFar at h
     rw [HPS.out] at h
     simp only at h
     rw [HFI.out] at h
     injection h with h1 h2
     exact ⟨h1,h2⟩
    clear hpl he hat
    have HDC:=am (show decide ((fi:Int) ≤ 40) = decide (fi ≤ 40) from by by_cases h:fi ≤ 40 <;> simp [h] <;> omega)
    go_wp2
    go_region_held3 (fun w'=>w'.cell? ⟨p,4,none⟩ = some (.int .i64 (fi:Int))) (first | go_keep) ((first | fail))
    go_wp2
    go_ret3
    refine ⟨.slice (some ⟨b,o,none⟩) s.T.length c,by rw [← HDC.out];rfl,.inr ⟨gw,gh,s,i,HPS.out,Kd.R_drew (Kd.R_below HST.out.2 HQ4.out)⟩,below_drew1 (below_step HB3.out HQ4.out)⟩
end Go.Proofs.YtldhkbiomingbaaGreatDoor.F

namespace Go.Proofs.YtldhkbiomingbaaGreatDoor.F
open Go.Proofs.YtldhkbiomingbaaGreatDoor
open Go.RowKit Go.YW.PrintWords Go.YW.PrintMore
theorem dirs_ex {d:Nat} (h:d < 4):(⟨#[117,114,100,108]⟩:ByteArray).extract d (d + 1) = strOfNums [dirB d]:=by
 rcases (by omega:d = 0 ∨ d = 1 ∨ d = 2 ∨ d = 3) with rfl | rfl | rfl | rfl <;> decide
end Go.Proofs.YtldhkbiomingbaaGreatDoor.F

namespace Go.Proofs.YtldhkbiomingbaaGreatDoor.F
open Go.Proofs.YtldhkbiomingbaaGreatDoor
open Go.RowKit Go.YW.PrintWords Go.YW.PrintLast Go.YW.PrintMore Go.Lib
def spec_puStates.f (t n:ByteArray) (goal:Int):Option (List Node × Int × Bool):=some (match puS t n goal with | none=>([],0,false) | some q=>(nodesOf q.1 q.2.1 q.2.2.1,((q.2.2.1.F.getD q.2.2.2 0:Nat):Int),decide (q.2.2.1.F.getD q.2.2.2 0 ≤ 40)))
theorem spec_puStates.calls (a0_0 a0_1:ByteArray) (a0_2:Int) (r1:List Node) (r2:Int) (r3:Bool) (w:World) (h:spec_puStates.f a0_0 a0_1 a0_2 = some (r1,r2,r3)) :
  Calls Tryz.prog 53 #[.agg #[.string a0_0,.string a0_1,.int .i64 a0_2]] w fun e w'=>∃ v0_:Value,e = .returned (.tuple #[v0_,.int .i64 r2,.bool r3]) ∧ Kd.R (ptrK 77 nodeK) 73 w' w.heap.size (fun _=>True) v0_ r1 ∧ Below w.heap.size w w':=by
 have h':=Option.some.inj h
 have hb:puFar a0_0 a0_1 a0_2 = (r2,r3):=by
  unfold puFar
  cases hs:puS a0_0 a0_1 a0_2 with
  | none=>rw [hs] at h';exact (Prod.mk.inj h').2
  | some q=>rw [hs] at h';exact (Prod.mk.inj h').2
 refine (puStates_calls a0_0 a0_1 a0_2 r2 r3 hb w).mono ?_
 rintro e w' ⟨v,rfl,ha,hB⟩
 refine ⟨v,rfl,?_,hB⟩
 rcases ha with ⟨hn,rfl⟩ | ⟨gw,gh,s,i,hn,hR⟩
 ·rw [hn] at h'
  rw [← (Prod.mk.inj h').1]
  exact Kd.R_nil _ _ _ _ _
 ·rw [hn] at h'
  rw [← (Prod.mk.inj h').1]
  exact hR
end Go.Proofs.YtldhkbiomingbaaGreatDoor.F

namespace Go.Proofs.YtldhkbiomingbaaGreatDoor.F
open Go.Proofs.YtldhkbiomingbaaGreatDoor
open Go.RowKit Go.YW.PrintWords Go.YW.PrintLast Go.YW.PrintMore Go.Lib
attribute [local go_sem] max2_int min2_int
def cntN (s:RS) (n goal:Int) (far:Nat) (i:Nat):Int:=(List.range i).foldl (fun a k=>if s.F.getD k 0 = far ∧ placeI n (s.T.getD k []) = goal then wrap64 (a + (waysL s).getD k 0) else a) 0
theorem cntN_succ (s:RS) (n goal:Int) (far i:Nat):cntN s n goal far (i + 1) = if s.F.getD i 0 = far ∧ placeI n (s.T.getD i []) = goal then wrap64 (cntN s n goal far i + (waysL s).getD i 0) else cntN s n goal far i:=by
 unfold cntN
 rw [List.range_succ,List.foldl_append];rfl
def cntA (t n:ByteArray) (goal:Int):Int × Bool:=match puS t n goal with
 | none=>(0,false)
 | some q=>if q.2.2.1.F.getD q.2.2.2 0 ≤ 40 then (cntN q.2.2.1 (bt n 0) goal (q.2.2.1.F.getD q.2.2.2 0) q.2.2.1.T.length,true) else (0,false)
def spec_CountSolutions.f (t n:ByteArray) (goal:Int):Option (Int × Bool):=some (cntA t n goal)
theorem spec_CountSolutions.calls (a0_0 a0_1:ByteArray) (a0_2:Int) (r1:Int) (r2:Bool) (w:World) (h:spec_CountSolutions.f a0_0 a0_1 a0_2 = some (r1,r2)) :
  Calls Tryz.prog 22 #[.agg #[.string a0_0,.string a0_1,.int .i64 a0_2]] w fun e w'=>e = .returned (.tuple #[.int .i64 r1,.bool r2]) ∧ Below w.heap.size w w':=by
 have HR:=am (show cntA a0_0 a0_1 a0_2 = (r1,r2) from Option.some.inj h)
 have HB:=am (Below.refl w.heap.size w)
 clear h
 obtain ⟨⟨q0,q1,q2⟩,hq⟩:∃ q,spec_puStates.f a0_0 a0_1 a0_2 = some q:=⟨_,rfl⟩
 have HP:=am hq
 cases q2 with
 | false =>
  obtain ⟨rfl,rfl⟩:0 = r1 ∧ false = r2:=by
   have h:=HR.out
   have h2:=Option.some.inj hq
   unfold cntA at h
   cases hs:puS a0_0 a0_1 a0_2 with
   | none=>rw [hs] at h;exact Prod.mk.inj h
   | some q =>
    rw [hs] at h h2
    have h3:=of_decide_eq_false (Prod.mk.inj (Prod.mk.inj h2).2).2
    simp only [if_neg h3] at h
    exact Prod.mk.inj h
  clear hq
  go_enter Tryz.func22,Tryz.ntmps22
  go_wp2_with (first
   | (refine bx 1 #[.string a0_0,.string a0_1,.int .i64 a0_2] 30 ?_;intro b1 hg1 w1 hbox1 hb1;have z0:w1.cell? ⟨b1,0,none⟩ = some (.string a0_0):=(blk_cell hbox1 0).trans rfl;have z1:w1.cell? ⟨b1,1,none⟩ = some (.string a0_1):=(blk_cell hbox1 1).trans rfl;have z2:w1.cell? ⟨b1,2,none⟩ = some (.int .i64 a0_2):=(blk_cell hbox1 2).trans rfl;have HB1:=am (below_step HB.out hb1);clear hg1 hbox1 hb1)
   | (go_at_call 53;refine (spec_puStates.calls a0_0 a0_1 a0_2 _ _ _ _ HP.out).mono ?_;rintro e w2 ⟨v2,rfl,ho2,hb2⟩;obtain ⟨A2,c2,rfl⟩:=Kd.R_slice ho2;have HB2:=am (below_step HB1.out hb2);clear hb2 z0 z1 z2 ho2))
  go_ret2
  exact ⟨rfl,HB2.out⟩
 | true =>
  obtain ⟨gw,gh,s,i0,hps,hle,rfl,rfl⟩:∃ gw gh s i0,puS a0_0 a0_1 a0_2 = some (gw,gh,s,i0) ∧ s.F.getD i0 0 ≤ 40 ∧ q0 = nodesOf gw gh s ∧ q1 = ((s.F.getD i0 0:Nat):Int):=by
   have h2:=Option.some.inj hq
   cases hs:puS a0_0 a0_1 a0_2 with
   | none=>rw [hs] at h2;cases (Prod.mk.inj (Prod.mk.inj h2).2).2
   | some q =>
    obtain ⟨gw,gh,s,i0⟩:=q
    rw [hs] at h2
    obtain ⟨e1,e2⟩:=Prod.mk.inj h2
    obtain ⟨e2,e3⟩:=Prod.mk.inj e2
    exact ⟨gw,gh,s,i0,rfl,of_decide_eq_true e3,e1.symm,e2.symm⟩
  obtain ⟨hpz,hsr,_,_⟩:=puS_some hps
  obtain ⟨cs,_,_,_,_,o2⟩:=srch_some hsr
  obtain ⟨fa,hfa⟩:∃ f,s.F.getD i0 0 = f:=⟨_,rfl⟩
  rw [hfa] at hle HP
  obtain ⟨rfl,rfl⟩:cntN s (bt a0_1 0) a0_2 fa s.T.length = r1 ∧ true = r2:=by
   have h:=HR.out
   unfold cntA at h
   rw [hps] at h
   simp only [hfa,if_pos hle] at h
   exact Prod.mk.inj h
  have HO2:=am o2
  have hz:=name_byte (puz_name hpz)
  have hnm1:(0:Int) < (a0_1.size:Int):=by omega
  have hnm2:0 < a0_1.size:=by omega
  have hbt:∀ h:0 < a0_1.size,((a0_1[0]'h).toNat:Int) = bt a0_1 0:=bt_at a0_1 0
  have hq0:((0:Int) < (a0_1.size:Int)) = True:=eq_true hnm1
  clear hps hsr o2 hpz hz hle hfa hq HR
  go_enter Tryz.func22,Tryz.ntmps22
  go_wp2_with (first
   | (refine bx 1 #[.string a0_0,.string a0_1,.int .i64 a0_2] 30 ?_;intro b1 hg1 w1 hbox1 hb1;have z0:w1.cell? ⟨b1,0,none⟩ = some (.string a0_0):=(blk_cell hbox1 0).trans rfl;have z1:w1.cell? ⟨b1,1,none⟩ = some (.string a0_1):=(blk_cell hbox1 1).trans rfl;have z2:w1.cell? ⟨b1,2,none⟩ = some (.int .i64 a0_2):=(blk_cell hbox1 2).trans rfl;have X1:=am hbox1;have HB1:=am (below_step HB.out hb1);clear hg1 hbox1 hb1)
   | (go_at_call 53;refine (spec_puStates.calls a0_0 a0_1 a0_2 _ _ _ _ HP.out).mono ?_;rintro e w3 ⟨v3,rfl,ho3,hb3⟩;have HB3:=am (below_step HB1.out hb3);have X3:=am (blk_below X1.out hb3);obtain ⟨b,o,c,rfl,hc,hst⟩:=states_open HO2.out ho3;have HST:=am hst;clear hb3 z0 z1 z2 ho3 hst hc))
  go_loopw [7,20] (fun v7 v20 wr=>∃ i:Nat,i ≤ s.T.length ∧ v20 = .int .i64 i ∧ v7 = .int .i64 (cntN s (bt a0_1 0) a0_2 fa i) ∧ Aside0 (Below w3.heap.size w3 wr)) (fun _ v20 _=>s.T.length - (intOf v20).toNat)
  case atStart=>exact ⟨0,Nat.zero_le _,rfl,rfl,⟨Below.refl _ _⟩⟩
  case round =>
   obtain ⟨i,hi,rfl,rfl,HQ⟩:=hrel
   by_cases hlt:i < s.T.length
   rotate_left
   ·have hge:¬ (i:Int) < (s.T.length:Int):=by omega
    obtain rfl:i = s.T.length:=by omega
    go_wp2
    go_ret2
    exact ⟨rfl,below_step HB3.out HQ.out⟩
   have hltI:(i:Int) < (s.T.length:Int):=by omega
   obtain ⟨p,Ag,cg,Ax,cx,zp,z0,z1,z2,_,z4,z5,_,hcg,hCg,_,hl⟩:=HST.out wr HQ.out i hlt
   have y1:wr.cell? ⟨b1,1,none⟩ = some (.string a0_1):=(blk_cell (blk_below X3.out HQ.out) 1).trans rfl
   have y2:wr.cell? ⟨b1,2,none⟩ = some (.int .i64 a0_2):=(blk_cell (blk_below X3.out HQ.out) 2).trans rfl
   have HL:=am hlt
   have HCG:=am (And.intro hcg (And.intro hCg hl))
   have hw1:IntKind.i64.wrap ((i:Int) + 1) = ((i + 1:Nat):Int):=by rw [IntKind.wrap_i64];have:=HO2.out.ok.most;omega
   have HSU:=am (cntN_succ s (bt a0_1 0) a0_2 fa i)
   obtain ⟨cg0,hcg0⟩:∃ c,s.T.getD i [] = c:=⟨_,rfl⟩
   obtain ⟨fi,hfi⟩:∃ f,s.F.getD i 0 = f:=⟨_,rfl⟩
   obtain ⟨qi,hqi⟩:∃ f,(waysL s).getD i 0 = f:=⟨_,rfl⟩
   rw [hcg0] at z2 HCG HSU
   rw [hfi] at z4 HSU
   rw [hqi] at z5 HSU
   clear hcg hCg hl hlt hi hcg0 hfi hqi
   obtain ⟨pl,hpl⟩:∃ pl,placeI (bt a0_1 0) cg0 = pl:=⟨_,rfl⟩
   rw [hpl] at HSU
   have HPL:=am (fun W Ag cg (hl:cg0.length ≤ 1000) (hc:cg0.length ≤ cg) (hC:(Kd.int .u8).C W Ag cg0.length cg0)=>by have h:=place_call hl hc hC gw gh (bt a0_1 0);rw [hpl] at h;exact h:∀ (W:World) (Ag:Option Addr) (cg:Nat),cg0.length ≤ 1000 → cg0.length ≤ cg → (Kd.int .u8).C W Ag cg0.length cg0 → Calls Tryz.prog 56 #[.agg #[.int .i64 gw,.int .i64 gh,.slice Ag cg0.length cg],.int .u8 (bt a0_1 0)] W fun e w'=>e = .returned (.int .i64 pl) ∧ Below W.heap.size W w')
   clear hpl
   go_wp2
   refine start_ (n:=19) (S:=fun w'=>w'.cell? ⟨p,0,none⟩ = some (.int .i64 gw) ∧ w'.cell? ⟨p,1,none⟩ = some (.int .i64 gh) ∧ w'.cell? ⟨p,2,none⟩ = some (.slice Ag cg0.length cg) ∧ w'.cell? ⟨p,4,none⟩ = some (.int .i64 (fi:Int)) ∧ w'.cell? ⟨b1,1,none⟩ = some (.string a0_1) ∧ w'.cell? ⟨b1,2,none⟩ = some (.int .i64 a0_2)) (ds:=[]) (bm 19 0) k_r rfl rfl ⟨z0,z1,z2,z4,y1,y2⟩ (fun hHeld=>?_)
   refine take_ (i:=0) (N:=some 24) (v:=?_) (a':=?_) (bm 19 1) rfl rfl k_r (fun _ _ _ h=>h) (Or.inl ⟨by rfl,?_⟩) hHeld ?_ ?_
   rotate_left
   ·rintro w' ⟨s_0,s_1,s_2,s_3,s_4,s_5⟩
    go_simp
    try with_reducible rfl
   rotate_left
   ·simp only [Act.put,ac_]
    rfl
   refine take_ (i:=1) (N:=some 25) (v:=?_) (a':=?_) (bm 19 3) rfl rfl k_r (fun _ _ _ h=>h) (Or.inl ⟨by rfl,?_⟩) hHeld ?_ ?_
   rotate_left
   ·rintro w' ⟨s_0,s_1,s_2,s_3,s_4,s_5⟩
    go_simp
    try with_reducible rfl
   rotate_left
   ·simp only [Act.put,ac_]
    rfl
   refine take_ (i:=2) (N:=some 26) (v:=?_) (a':=?_) (bm 19 7) rfl rfl k_r (fun _ _ _ h=>h) (Or.inl ⟨by rfl,?_⟩) hHeld ?_ ?_
   rotate_left
   ·rintro w' ⟨s_0,s_1,s_2,s_3,s_4,s_5⟩
    go_simp
    try with_reducible rfl
   rotate_left
   ·simp only [Act.put,ac_]
    rfl
   refine take_ (i:=3) (N:=some 27) (v:=?_) (a':=?_) (bm 19 15) rfl rfl k_r (fun _ _ _ h=>h) (Or.inl ⟨by rfl,?_⟩) hHeld ?_ ?_
   rotate_left
   ·rintro w' ⟨s_0,s_1,s_2,s_3,s_4,s_5⟩
    go_simp
    try with_reducible rfl
   rotate_left
   ·simp only [Act.put,ac_]
    rfl
   refine take_ (i:=4) (N:=some 28) (v:=?_) (a':=?_) (bm 19 31) rfl rfl k_r (fun _ _ _ h=>h) (Or.inl ⟨by rfl,?_⟩) hHeld ?_ ?_
   rotate_left
   ·rintro w' ⟨s_0,s_1,s_2,s_3,s_4,s_5⟩
    go_simp
    try with_reducible rfl
   rotate_left
   ·simp only [Act.put,ac_]
    rfl
   by_cases hf:fi = fa
   rotate_left
   ·have hfb:((fi:Int) == (fa:Int)) = false:=beq_eq_false_iff_ne.2 o_m
    refine take_ (i:=5) (N:=some 29) (v:=?_) (a':=?_) (bm 19 63) rfl rfl k_r (fun _ _ _ h=>h) (Or.inl ⟨by rfl,?_⟩) hHeld ?_ ?_
    rotate_left
    ·rintro w' ⟨s_0,s_1,s_2,s_3,s_4,s_5⟩
     go_simp
     try with_reducible rfl
    rotate_left
    ·simp only [Act.put,ac_]
     rfl
    refine take_ (i:=6) (N:=some 30) (v:=?_) (a':=?_) (bm 19 127) rfl rfl k_r (fun _ _ _ h=>h) (Or.inl ⟨by rfl,?_⟩) hHeld ?_ ?_
    rotate_left
    ·rintro w' ⟨s_0,s_1,s_2,s_3,s_4,s_5⟩
     go_simp
     try with_reducible rfl
    rotate_left
    ·simp only [Act.put,ac_]
     rfl
    refine take_ (i:=7) (N:=some 31) (v:=undef) (a':=?_) (bm 19 255) rfl rfl k_r (fun _ _ _ h=>h) (Or.inr ⟨by rfl,rfl⟩) hHeld ?_ ?_
    rotate_left
    ·simp only [Act.put,ac_]
     rfl
    refine take_ (i:=8) (N:=some 32) (v:=undef) (a':=?_) (bm 19 511) rfl rfl k_r (fun _ _ _ h=>h) (Or.inr ⟨by rfl,rfl⟩) hHeld ?_ ?_
    rotate_left
    ·simp only [Act.put,ac_]
     rfl
    refine take_ (i:=9) (N:=some 33) (v:=undef) (a':=?_) (bm 19 1023) rfl rfl k_r (fun _ _ _ h=>h) (Or.inr ⟨by rfl,rfl⟩) hHeld ?_ ?_
    rotate_left
    ·simp only [Act.put,ac_]
     rfl
    refine take_ (i:=10) (N:=some 34) (v:=undef) (a':=?_) (bm 19 2047) rfl rfl k_r (fun _ _ _ h=>h) (Or.inr ⟨by rfl,rfl⟩) hHeld ?_ ?_
    rotate_left
    ·simp only [Act.put,ac_]
     rfl
    refine take_ (i:=11) (N:=some 35) (v:=undef) (a':=?_) (bm 19 4095) rfl rfl k_r (fun _ _ _ h=>h) (Or.inr ⟨by rfl,rfl⟩) hHeld ?_ ?_
    rotate_left
    ·simp only [Act.put,ac_]
     rfl
    refine take_ (i:=12) (N:=some 36) (v:=undef) (a':=?_) (bm 19 8191) rfl rfl k_r (fun _ _ _ h=>h) (Or.inr ⟨by rfl,rfl⟩) hHeld ?_ ?_
    rotate_left
    ·simp only [Act.put,ac_]
     rfl
    refine take_ (i:=13) (N:=some 37) (v:=undef) (a':=?_) (bm 19 16383) rfl rfl k_r (fun _ _ _ h=>h) (Or.inr ⟨by rfl,rfl⟩) hHeld ?_ ?_
    rotate_left
    ·simp only [Act.put,ac_]
     rfl
    refine take_ (i:=14) (N:=some 38) (v:=undef) (a':=?_) (bm 19 32767) rfl rfl k_r (fun _ _ _ h=>h) (Or.inr ⟨by rfl,rfl⟩) hHeld ?_ ?_
    rotate_left
    ·simp only [Act.put,ac_]
     rfl
    refine take_ (i:=15) (N:=some 39) (v:=undef) (a':=?_) (bm 19 65535) rfl rfl k_r (fun _ _ _ h=>h) (Or.inr ⟨by rfl,rfl⟩) hHeld ?_ ?_
    rotate_left
    ·simp only [Act.put,ac_]
     rfl
    refine take_ (i:=16) (N:=some 40) (v:=undef) (a':=?_) (bm 19 131071) rfl rfl k_r (fun _ _ _ h=>h) (Or.inr ⟨by rfl,rfl⟩) hHeld ?_ ?_
    rotate_left
    ·simp only [Act.put,ac_]
     rfl
    refine take_ (i:=17) (N:=some 41) (v:=undef) (a':=?_) (bm 19 262143) rfl rfl k_r (fun _ _ _ h=>h) (Or.inr ⟨by rfl,rfl⟩) hHeld ?_ ?_
    rotate_left
    ·simp only [Act.put,ac_]
     rfl
    refine take_ (i:=18) (N:=some 42) (v:=?_) (a':=?_) (bm 19 524287) rfl rfl k_r (fun _ _ _ h=>h) (Or.inl ⟨by rfl,?_⟩) hHeld ?_ ?_
    rotate_left
    ·rintro w' ⟨s_0,s_1,s_2,s_3,s_4,s_5⟩
     go_simp
     try with_reducible rfl
    rotate_left
    ·simp only [Act.put,ac_]
     rfl
    refine done_ k_r ?_
    have HSU2:=am (show cntN s (bt a0_1 0) a0_2 fa (i + 1) = cntN s (bt a0_1 0) a0_2 fa i by rw [HSU.out,if_neg (fun h=>hf h.1)])
    have HQ4:=am (below_drew1 HQ.out)
    clear hHeld hf z0 z1 z2 z4 z5 y1 y2
    generalize wr.drew = wd at HQ4 ⊢
    go_wp2
    go_roundw
    case rel=>exact ⟨i + 1,HL.out,by first | rfl | simp,by rw [HSU2.out],HQ4⟩
    case measure=>have:=HL.out;simp [intOf];omega
   have hfb:((fi:Int) == (fa:Int)) = true:=beq_iff_eq.2 o_m
   refine take_ (i:=5) (N:=some 29) (v:=?_) (a':=?_) (bm 19 63) rfl rfl k_r (fun _ _ _ h=>h) (Or.inl ⟨by rfl,?_⟩) hHeld ?_ ?_
   rotate_left
   ·rintro w' ⟨s_0,s_1,s_2,s_3,s_4,s_5⟩
    go_simp
    try with_reducible rfl
   rotate_left
   ·simp only [Act.put,ac_]
    rfl
   refine take_ (i:=6) (N:=some 30) (v:=?_) (a':=?_) (bm 19 127) rfl rfl k_r (fun _ _ _ h=>h) (Or.inl ⟨by rfl,?_⟩) hHeld ?_ ?_
   rotate_left
   ·rintro w' ⟨s_0,s_1,s_2,s_3,s_4,s_5⟩
    go_simp
    try with_reducible rfl
   rotate_left
   ·simp only [Act.put,ac_]
    rfl
   refine take_ (i:=7) (N:=some 31) (v:=?_) (a':=?_) (bm 19 255) rfl rfl k_r (fun _ _ _ h=>h) (Or.inl ⟨by rfl,?_⟩) hHeld ?_ ?_
   rotate_left
   ·rintro w' ⟨s_0,s_1,s_2,s_3,s_4,s_5⟩
    go_simp
    try with_reducible rfl
   rotate_left
   ·simp only [Act.put,ac_]
    rfl
   refine take_ (i:=8) (N:=some 32) (v:=?_) (a':=?_) (bm 19 511) rfl rfl k_r (fun _ _ _ h=>h) (Or.inl ⟨by rfl,?_⟩) hHeld ?_ ?_
   rotate_left
   ·rintro w' ⟨s_0,s_1,s_2,s_3,s_4,s_5⟩
    go_simp
    try with_reducible rfl
   rotate_left
   ·simp only [Act.put,ac_]
    rfl
   refine take_ (i:=9) (N:=some 33) (v:=?_) (a':=?_) (bm 19 1023) rfl rfl k_r (fun _ _ _ h=>h) (Or.inl ⟨by rfl,?_⟩) hHeld ?_ ?_
   rotate_left
   ·rintro w' ⟨s_0,s_1,s_2,s_3,s_4,s_5⟩
    go_simp
    try with_reducible rfl
   rotate_left
   ·simp only [Act.put,ac_]
    rfl
   refine take_ (i:=10) (N:=some 34) (v:=?_) (a':=?_) (bm 19 2047) rfl rfl k_r (fun _ _ _ h=>h) (Or.inl ⟨by rfl,?_⟩) hHeld ?_ ?_
   rotate_left
   ·rintro w' ⟨s_0,s_1,s_2,s_3,s_4,s_5⟩
    go_simp
    try with_reducible rfl
   rotate_left
   ·simp only [Act.put,ac_]
    rfl
   refine take_ (i:=11) (N:=some 35) (v:=?_) (a':=?_) (bm 19 4095) rfl rfl k_r (fun _ _ _ h=>h) (Or.inl ⟨by rfl,?_⟩) hHeld ?_ ?_
   rotate_left
   ·rintro w' ⟨s_0,s_1,s_2,s_3,s_4,s_5⟩
    go_simp
    try with_reducible rfl
   rotate_left
   ·simp only [Act.put,ac_]
    rfl
   refine take_ (i:=12) (N:=some 36) (v:=?_) (a':=?_) (bm 19 8191) rfl rfl k_r (fun _ _ _ h=>h) (Or.inl ⟨by rfl,?_⟩) hHeld ?_ ?_
   rotate_left
   ·rintro w' ⟨s_0,s_1,s_2,s_3,s_4,s_5⟩
    go_simp
    try with_reducible rfl
   rotate_left
   ·simp only [Act.put,ac_]
    rfl
   refine take_ (i:=13) (N:=some 37) (v:=?_) (a':=?_) (bm 19 16383) rfl rfl k_r (fun _ _ _ h=>h) (Or.inl ⟨by rfl,?_⟩) hHeld ?_ ?_
   rotate_left
   ·rintro w' ⟨s_0,s_1,s_2,s_3,s_4,s_5⟩
    go_simp
    try with_reducible rfl
   rotate_left
   ·simp only [Act.put,ac_]
    rfl
   refine take_ (i:=15) (N:=some 39) (v:=?_) (a':=?_) (bm 19 49151) rfl rfl k_r (fun _ _ _ h=>h) (Or.inl ⟨by rfl,?_⟩) hHeld ?_ ?_
   rotate_left
   ·rintro w' ⟨s_0,s_1,s_2,s_3,s_4,s_5⟩
    go_simp
    try with_reducible rfl
   rotate_left
   ·simp only [Act.put,ac_]
    rfl
   refine take_ (i:=16) (N:=some 40) (v:=?_) (a':=?_) (bm 19 114687) rfl rfl k_r (fun _ _ _ h=>h) (Or.inl ⟨by rfl,?_⟩) hHeld ?_ ?_
   rotate_left
   ·rintro w' ⟨s_0,s_1,s_2,s_3,s_4,s_5⟩
    go_simp
    try with_reducible rfl
   rotate_left
   ·simp only [Act.put,ac_]
    rfl
   refine one_ (i:=14) (N:=some 38) (bm 19 131071) rfl rfl k_r d_c (fun K' hK'=>?_)
   refine goes_ Tryz.func56 k_r rfl #[.agg #[.int .i64 gw,.int .i64 gh,.slice Ag cg0.length cg],.int .u8 (bt a0_1 0)] (by rfl) rfl rfl (by (try simp only [List.map_toArray,List.map_cons,List.map_nil]);first | done | rfl) ?_
   refine (HPL.out _ Ag cg HCG.out.2.2 HCG.out.1 (by exact HCG.out.2.1)).mono ?_
   rintro e w4 ⟨rfl,hb4⟩
   have HB4:=am (show Below wr.heap.size wr w4 from ⟨hb4.os,hb4.tape,hb4.output,hb4.size,hb4.block⟩)
   refine ⟨_,rfl,?_⟩
   have x5:=(HB4.out.cell (World.block_lt_of_cell? wr _ z5)).trans z5
   refine hK'.out _ _ ⟨(HB4.out.cell (World.block_lt_of_cell? wr _ z0)).trans z0,(HB4.out.cell (World.block_lt_of_cell? wr _ z1)).trans z1,(HB4.out.cell (World.block_lt_of_cell? wr _ z2)).trans z2,(HB4.out.cell (World.block_lt_of_cell? wr _ z4)).trans z4,(HB4.out.cell (World.block_lt_of_cell? wr _ y1)).trans y1,(HB4.out.cell (World.block_lt_of_cell? wr _ y2)).trans y2⟩ (fun hHeld=>?_)
   clear hK' K' hb4 z0 z1 z2 z4 z5 y1 y2
   refine nm (some 38) ?_
   have HQ4:=am (below_step HQ.out HB4.out)
   by_cases he:pl = a0_2
   rotate_left
   ·have heb:(pl == a0_2) = false:=beq_eq_false_iff_ne.2 he
    refine take_ (i:=17) (N:=some 41) (v:=?_) (a':=?_) (bm 19 262143) rfl rfl k_r (fun _ _ _ h=>h) (Or.inl ⟨by rfl,?_⟩) hHeld ?_ ?_
    rotate_left
    ·rintro w' ⟨s_0,s_1,s_2,s_3,s_4,s_5⟩
     go_simp
     try with_reducible rfl
    rotate_left
    ·simp only [Act.put,ac_]
     rfl
    refine take_ (i:=18) (N:=some 42) (v:=?_) (a':=?_) (bm 19 524287) rfl rfl k_r (fun _ _ _ h=>h) (Or.inl ⟨by rfl,?_⟩) hHeld ?_ ?_
    rotate_left
    ·rintro w' ⟨s_0,s_1,s_2,s_3,s_4,s_5⟩
     go_simp
     try with_reducible rfl
    rotate_left
    ·simp only [Act.put,ac_]
     rfl
    refine done_ k_r ?_
    have HSU2:=am (show cntN s (bt a0_1 0) a0_2 fa (i + 1) = cntN s (bt a0_1 0) a0_2 fa i by rw [HSU.out,if_neg (fun h=>he h.2)])
    clear he hHeld hf
    go_wp2
    go_roundw
    case rel=>exact ⟨i + 1,HL.out,by first | rfl | simp,by rw [HSU2.out],HQ4⟩
    case measure=>have:=HL.out;simp [intOf];omega
   have heb:(pl == a0_2) = true:=beq_iff_eq.2 he
   refine take_ (i:=17) (N:=some 41) (v:=?_) (a':=?_) (bm 19 262143) rfl rfl k_r (fun _ _ _ h=>h) (Or.inl ⟨by rfl,?_⟩) hHeld ?_ ?_
   rotate_left
   ·rintro w' ⟨s_0,s_1,s_2,s_3,s_4,s_5⟩
    go_simp
    try with_reducible rfl
   rotate_left
   ·simp only [Act.put,ac_]
    rfl
   refine take_ (i:=18) (N:=some 42) (v:=?_) (a':=?_) (bm 19 524287) rfl rfl k_r (fun _ _ _ h=>h) (Or.inl ⟨by rfl,?_⟩) hHeld ?_ ?_
   rotate_left
   ·rintro w' ⟨s_0,s_1,s_2,s_3,s_4,s_5⟩
    go_simp
    try with_reducible rfl
   rotate_left
   ·simp only [Act.put,ac_]
    rfl
   refine done_ k_r ?_
   have HSU2:=am (show cntN s (bt a0_1 0) a0_2 fa (i + 1) = wrap64 (cntN s (bt a0_1 0) a0_2 fa i + qi) by rw [HSU.out,if_pos ⟨hf,he⟩])
   clear he hHeld hf
   go_wp2
   go_roundw
   case rel=>exact ⟨i + 1,HL.out,by first | rfl | simp,by first | (rw [HSU2.out];done) | (rw [HSU2.out];rfl) | (rw [HSU2.out];simp [i64_w]),HQ4⟩
   case measure=>have:=HL.out;simp [intOf];omega
end Go.Proofs.YtldhkbiomingbaaGreatDoor.F

namespace Go.Proofs.YtldhkbiomingbaaGreatDoor.F
open Go.Proofs.YtldhkbiomingbaaGreatDoor
open Go.RowKit Go.YW.PrintWords Go.YW.PrintMore
def kidsR (s:RS) (g:Nat → Bool) (k d:Nat):List (Nat × Nat):=((List.range d).map fun d=>(d,(s.N.getD k []).getD d 0)).filter fun q=>(s.F.getD q.2 0 == s.F.getD k 0 + 1) && g q.2
theorem kidsR_four (s:RS) (g:Nat → Bool) (k:Nat):kidsR s g k 4 = kidsN s g k:=rfl
theorem kidsR_succ (s:RS) (g:Nat → Bool) (k d:Nat):kidsR s g k (d + 1) = if ((s.F.getD ((s.N.getD k []).getD d 0) 0 == s.F.getD k 0 + 1) && g ((s.N.getD k []).getD d 0)) = true then kidsR s g k d ++ [(d,(s.N.getD k []).getD d 0)] else kidsR s g k d:=by
 unfold kidsR
 rw [List.range_succ,List.map_append,List.filter_append,List.map_cons,List.map_nil,List.filter_cons,List.filter_nil]
 split
 ·rfl
 ·exact List.append_nil _
theorem kidsR_pre (s:RS) (g:Nat → Bool) (k:Nat) {d:Nat} (hd:d ≤ 4):∃ t,kidsN s g k = kidsR s g k d ++ t:=by
 rw [← kidsR_four]
 have e:List.range 4 = List.range d ++ (List.range (4 - d)).map (d + ·):=by rw [← List.range_add,show d + (4 - d) = 4 by omega]
 unfold kidsR
 rw [e,List.map_append,List.filter_append]
 exact ⟨_,rfl⟩
theorem levW_snoc (f:Nat → List (Nat × Nat)):∀ (m:Nat) (L:List (List Nat × Nat)),levW f (m + 1) L = kidW f (levW f m L)
 | 0,L=>rfl
 | m + 1,L=>levW_snoc f m (kidW f L)
def goodL (s:RS) (n goal:Int) (far:Nat):List Bool:=downS (fun k=>s.F.getD k 0) (fun k=>decide (placeI n (s.T.getD k []) = goal)) (fun k=>s.N.getD k []) far s.T.length (List.replicate s.T.length false)
def goodB (s:RS) (n goal:Int) (far k:Nat):Bool:=(goodL s n goal far).getD k false
def solL (s:RS) (n goal:Int) (far i:Nat):List (List Nat × Nat):=levW (kidsN s (goodB s n goal far)) i [([],0)]
theorem solL_succ (s:RS) (n goal:Int) (far i:Nat):solL s n goal far (i + 1) = kidW (kidsN s (goodB s n goal far)) (solL s n goal far i):=levW_snoc _ i _
def txL (L:List (List Nat × Nat)):List ByteArray:=L.map fun p=>txtW p.1
def toL (L:List (List Nat × Nat)):List Int:=L.map fun p=>((p.2:Nat):Int)
theorem txL_len (L:List (List Nat × Nat)):(txL L).length = L.length:=List.length_map _
theorem toL_len (L:List (List Nat × Nat)):(toL L).length = L.length:=List.length_map _
theorem txL_app (L M:List (List Nat × Nat)):txL (L ++ M) = txL L ++ txL M:=List.map_append
theorem toL_app (L M:List (List Nat × Nat)):toL (L ++ M) = toL L ++ toL M:=List.map_append
section
variable {w h:Nat} {cs:List Int} {s:RS} {n goal:Int} {far:Nat}
theorem solL_most (o:RS.Ok2 w h cs s.T.length s) (o3:RS.Ok3 w h s.T.length s) {i:Nat} (hi:i ≤ 40):(solL s n goal far i).length ≤ 2199023255552 :=
 Nat.le_trans (lev_most o o3 _ i) (Nat.le_trans (Nat.pow_le_pow_right d_c (show i + 1 ≤ 41 by omega)) d_c)
theorem solL_ok (o:RS.Ok2 w h cs s.T.length s) {i:Nat}:∀ p ∈ solL s n goal far i,p.2 < s.T.length ∧ s.F.getD p.2 0 = i ∧ p.1.length = i:=fun p hp=>by
 have h0:∀ p ∈ [(([]:List Nat),0)],p.2 < s.T.length ∧ s.F.getD p.2 0 = 0:=fun p hp=>by
  rw [List.mem_singleton.1 hp]
  refine ⟨o.ok.pos,?_⟩
  have:=o.ok.far 0 o.ok.pos
  rw [o.ok.first] at this
  exact this.symm
 refine ⟨levW_low o _ i _ (fun q hq=>(h0 q hq).1) p hp,?_,?_⟩
 ·have:=levW_far _ o i 0 _ h0 p hp
  omega
 ·have:=levW_len (kidsN s (goodB s n goal far)) i 0 [([],0)] (fun q hq=>by rw [List.mem_singleton.1 hq];rfl) p hp
  omega
end
def allA (t n:ByteArray) (goal:Int):List ByteArray × Bool:=match puS t n goal with
 | none=>([],false)
 | some q=>if q.2.2.1.F.getD q.2.2.2 0 ≤ 40 ∧ (cntA t n goal).1 ≤ 100 then (txL (solL q.2.2.1 (bt n 0) goal (q.2.2.1.F.getD q.2.2.2 0) (q.2.2.1.F.getD q.2.2.2 0)),true) else ([],false)
theorem allA_len {t n:ByteArray} {goal:Int}:(allA t n goal).1.length ≤ 2199023255552:=by
 unfold allA
 cases hp:puS t n goal with
 | none=>simp
 | some q =>
  obtain ⟨w,h,s,i⟩:=q
  simp only
  split
  ·rename_i hc
   obtain ⟨_,hsr,_,_⟩:=puS_some hp
   obtain ⟨cs,_,v,_,hr,o⟩:=srch_some hsr
   show (txL _).length ≤ _
   rw [txL_len]
   exact solL_most o (reach_far v hr) hc.1
  ·simp
end Go.Proofs.YtldhkbiomingbaaGreatDoor.F

namespace Go.Proofs.YtldhkbiomingbaaGreatDoor.F
open Go.Proofs.YtldhkbiomingbaaGreatDoor
open Go.RowKit Go.YW.PrintWords Go.YW.PrintLast Go.YW.PrintMore Go.Lib
attribute [local go_sem] max2_int min2_int
def downG (s:RS) (nm goal:Int) (far k:Nat) (A:List Bool):List Bool:=downS (fun k=>s.F.getD k 0) (fun k=>decide (placeI nm (s.T.getD k []) = goal)) (fun k=>s.N.getD k []) far k A
def anyG (s:RS) (far:Nat) (A:List Bool) (m:Nat) (l:List Nat):Bool:=l.any fun a=>decide (s.F.getD m 0 < far) && (s.F.getD a 0 == s.F.getD m 0 + 1) && A.getD a false
theorem downG_eq {s:RS} {nm goal:Int} {far m:Nat} {A:List Bool} (h:s.F.getD m 0 = far):downG s nm goal far (m + 1) A = downG s nm goal far m (A.set m (decide (placeI nm (s.T.getD m []) = goal))):=by
 show downG s nm goal far m (A.set m (if s.F.getD m 0 = far then _ else _)) = _
 rw [if_pos h]
theorem downG_ne {s:RS} {nm goal:Int} {far m:Nat} {A:List Bool} (h:s.F.getD m 0 ≠ far):downG s nm goal far (m + 1) A = downG s nm goal far m (A.set m (anyG s far A m (s.N.getD m []))):=by
 show downG s nm goal far m (A.set m (if s.F.getD m 0 = far then _ else _)) = _
 rw [if_neg h];rfl
theorem anyG_succ (s:RS) (far:Nat) (A:List Bool) (m:Nat) (l:List Nat) {j:Nat} (hj:j < l.length):anyG s far A m (l.take (j + 1)) = (anyG s far A m (l.take j) || (decide (s.F.getD m 0 < far) && (s.F.getD (l.getD j 0) 0 == s.F.getD m 0 + 1) && A.getD (l.getD j 0) false)):=by
 unfold anyG
 rw [List.take_succ_eq_append_getElem hj,List.any_append,getD_lt hj]
 simp
theorem getB_set (l:List Bool) (i j:Nat) (v:Bool):(l.set i v).getD j false = if i = j ∧ i < l.length then v else l.getD j false:=by
 rw [List.getD_eq_getElem?_getD,List.getD_eq_getElem?_getD,List.getElem?_set]
 by_cases h:i = j
 rotate_left
 ·rw [if_neg h,if_neg (fun q=>h q.1)]
 subst h
 by_cases h2:i < l.length
 rotate_left
 ·rw [if_pos rfl,if_neg h2,if_neg (fun h=>h2 h.2),List.getElem?_eq_none o_m]
 rw [if_pos rfl,if_pos h2,if_pos ⟨rfl,h2⟩];rfl
theorem set_same {l:List Bool} {m:Nat} (h:l.getD m false = false):l.set m false = l:=by
 by_cases hm:m < l.length
 rotate_left
 ·exact List.set_eq_of_length_le o_m
 rw [getD_lt hm] at h
 apply List.ext_getElem (by simp)
 intro i h1 h2
 rw [List.getElem_set]
 split
 ·rename_i e;subst e;exact h.symm
 ·rfl
def moreL (s:RS) (nm goal:Int) (far:Nat) (L:List (List Nat × Nat)) (p:List Nat × Nat) (d:Nat):List (List Nat × Nat):=kidW (kidsN s (goodB s nm goal far)) L ++ (kidsR s (goodB s nm goal far) p.2 d).map fun q=>(p.1 ++ [q.1],q.2)
theorem moreL_zero (s:RS) (nm goal:Int) (far:Nat) (L:List (List Nat × Nat)) (p:List Nat × Nat):moreL s nm goal far L p 0 = kidW (kidsN s (goodB s nm goal far)) L:=by
 unfold moreL kidsR
 simp
theorem moreL_four (s:RS) (nm goal:Int) (far:Nat) (L:List (List Nat × Nat)) {j:Nat} (hj:j < L.length):moreL s nm goal far (L.take j) L[j] 4 = kidW (kidsN s (goodB s nm goal far)) (L.take (j + 1)):=by
 rw [List.take_succ_eq_append_getElem hj,kidW_app]
 unfold moreL
 rw [kidsR_four]
 congr 1
 unfold kidW
 simp
theorem moreL_succ (s:RS) (nm goal:Int) (far:Nat) (L:List (List Nat × Nat)) (p:List Nat × Nat) (d:Nat):moreL s nm goal far L p (d + 1) =
  if ((s.F.getD ((s.N.getD p.2 []).getD d 0) 0 == s.F.getD p.2 0 + 1) && goodB s nm goal far ((s.N.getD p.2 []).getD d 0)) = true then moreL s nm goal far L p d ++ [(p.1 ++ [d],(s.N.getD p.2 []).getD d 0)] else moreL s nm goal far L p d:=by
 unfold moreL
 rw [kidsR_succ]
 split
 ·rw [List.map_append,← List.append_assoc];rfl
 ·rfl
theorem moreL_len (s:RS) (nm goal:Int) (far:Nat) (L:List (List Nat × Nat)) {j:Nat} (hj:j < L.length) {d:Nat} (hd:d ≤ 4):(moreL s nm goal far (L.take j) L[j] d).length ≤ (kidW (kidsN s (goodB s nm goal far)) L).length:=by
 have h1:kidW (kidsN s (goodB s nm goal far)) L = kidW (kidsN s (goodB s nm goal far)) (L.take (j + 1)) ++ kidW (kidsN s (goodB s nm goal far)) (L.drop (j + 1)):=by rw [← kidW_app,List.take_append_drop]
 rw [h1,List.length_append,← moreL_four s nm goal far L hj]
 obtain ⟨t,ht⟩:=kidsR_pre s (goodB s nm goal far) (L[j]).2 hd
 unfold moreL
 rw [kidsR_four,ht]
 simp only [List.length_append,List.length_map]
 omega
theorem puSome_calls {gw gh:Nat} {cs:List Int} {s:RS} (o2:RS.Ok2 gw gh cs s.T.length s) (o3:RS.Ok3 gw gh s.T.length s) (b o c:Nat) (W:World) (hst:∀ W',Below W.heap.size W W' → ∀ i,i < s.T.length → StateC W' b o i gw gh s) (far:Nat) (hfar:far ≤ 40) (nm goal:Int) :
  Calls Tryz.prog 58 #[.slice (some ⟨b,o,none⟩) s.T.length c,.int .i64 (far:Int),.int .u8 nm,.int .i64 goal] W fun e w'=>∃ v,e = .returned v ∧ Kd.R Kd.string 9 w' W.heap.size (fun _=>True) v (txL (solL s nm goal far far)) ∧ Below W.heap.size W w':=by
 have HO2:=am o2
 have HO3:=am o3
 have HST:=am hst
 have HFR:=am hfar
 have HM:=am o2.ok.most
 have HPOS:=am o2.ok.pos
 have hge0:(0:Int) ≤ (s.T.length:Int):=by omega
 have hle:(s.T.length:Int).toNat ≤ 281474976710656:=by have:=HM.out;omega
 have hw0:IntKind.i64.wrap ((s.T.length:Int) - 1) = (s.T.length:Int) - 1:=by rw [IntKind.wrap_i64];have:=HM.out;have:=HPOS.out;omega
 clear o2 o3 hst hfar
 go_enter Tryz.func58,Tryz.ntmps58
 go_wp2_with (first
  | ((with_reducible refine gate_dst (N:=24) rfl ?_);refine Kd.R_make Kd.bool _ 4 rfl (N:=24) rfl 81 _ _ rfl (s.T.length:Int) rfl rfl Tryz.underlying81 (.bool false) 1 info4 rfl d_c o_m false (ok:=fun _=>True) (okp:=fun _=>True) rfl (fun _ hk=>hk) trivial hge0 (Nat.le_trans (Nat.mul_le_mul_right _ hle) o_m) (Below.refl _ _) (Nat.le_refl _) ?_;intro v7 w7 ho7 hb7 hg7 hn7;rw [Int.toNat_natCast] at ho7;obtain ⟨g,cap,hv7,hgb,hgl,_⟩:=Kd.R_form ho7 (by rw [List.length_replicate];exact HPOS.out);rw [List.length_replicate] at hv7;subst hv7;have HGB:=am hgb;have HO7:=am ho7;have HB7:=am hb7;clear ho7 hb7 hg7 hn7 hgb hgl))
 clear hw0
 go_loopw [10] (fun v10 wr=>∃ (k:Nat) (A:List Bool),k ≤ s.T.length ∧ v10 = .int .i64 ((k:Int) - 1) ∧ A.length = s.T.length ∧ Aside0 (∀ j,j < k → A.getD j false = false) ∧ Aside0 (downG s nm goal far k A = goodL s nm goal far) ∧ Aside0 (Kd.R Kd.bool 4 wr W.heap.size (fun _=>True) (.slice (some ⟨g,0,none⟩) s.T.length cap) A) ∧ Aside0 (Below W.heap.size W wr)) (fun v10 _=>(intOf v10 + 1).toNat)
 case atStart=>exact ⟨s.T.length,List.replicate s.T.length false,Nat.le_refl _,rfl,List.length_replicate,⟨fun j hj=>by rw [List.getD_eq_getElem?_getD,List.getElem?_replicate];split <;> rfl⟩,⟨rfl⟩,HO7,HB7⟩
 case round =>
  obtain ⟨k,A,hk,rfl,hAl,HAF,HDW,HD,HQ⟩:=hrel
  cases k with
  | succ m =>
   have hmI:(m:Int) < (s.T.length:Int):=by omega
   have e0:(((m + 1:Nat):Int) - 1) = (m:Int):=by omega
   rw [e0]
   have hgm:(0:Int) ≤ (m:Int):=by omega
   have hw1:IntKind.i64.wrap ((m:Int) - 1) = (m:Int) - 1:=by rw [IntKind.wrap_i64];have:=HM.out;omega
   obtain ⟨p,Ag,cg,Ax,cx,zp,z0,z1,z2,_,z4,_,z8,hcg,hC,hCx,h1000⟩:=HST.out W (Below.refl _ _) m o_m
   have hnl:s.N.getD m [] ∈ s.N:=getD_mem (by rw [HO2.out.lN];omega)
   obtain ⟨hn4,hnk⟩:=HO2.out.next _ hnl
   obtain ⟨fm,hfm⟩:∃ x,s.F.getD m 0 = x:=⟨_,rfl⟩
   rw [hfm] at z4
   have HK:=am hk
   have HAL:=am hAl
   have HFM:=am hfm
   have ZP:=am zp
   have Z0:=am z0
   have Z1:=am z1
   have Z2:=am z2
   have Z4:=am z4
   have Z8:=am z8
   have HCG:=am hcg
   have HC:=am hC
   have HCX:=am hCx
   have H10:=am h1000
   have yp:=(HQ.out.cell (World.block_lt_of_cell? W _ zp)).trans zp
   have y4:=(HQ.out.cell (World.block_lt_of_cell? W _ z4)).trans z4
   clear hk hAl e0 hnl zp z0 z1 z2 z4 z8 hcg hC hCx h1000
   by_cases hfe:fm = far
   ·have hbe:(((fm:Nat):Int) == ((far:Nat):Int)) = true:=by rw [hfe];exact beq_self_eq_true _
    have y0:=(HQ.out.cell (World.block_lt_of_cell? W _ Z0.out)).trans Z0.out
    have y1:=(HQ.out.cell (World.block_lt_of_cell? W _ Z1.out)).trans Z1.out
    have y2:=(HQ.out.cell (World.block_lt_of_cell? W _ Z2.out)).trans Z2.out
    obtain ⟨pl,hpl⟩:∃ x,placeI nm (s.T.getD m []) = x:=⟨_,rfl⟩
    obtain ⟨bb,hbb⟩:∃ x,(pl == goal) = x:=⟨_,rfl⟩
    have HPC:=am (place_call (W:=wr) H10.out HCG.out (Kd.C_below HC.out HQ.out) (gw:Int) (gh:Int) nm)
    rw [hpl] at HPC
    have HDW2:=am (show downG s nm goal far m (A.set m bb) = goodL s nm goal far by rw [← HDW.out,downG_eq (HFM.out.trans hfe),hpl,← hbb];rfl)
    clear hfm hfe hn4 hnk hpl
    go_wp2_with (first
     | (go_at_call 56;refine HPC.out.mono ?_;rintro e w5 ⟨rfl,hb5⟩;have HD5:=am (Kd.R_below HD.out hb5);have HQ5:=am (below_step HQ.out hb5);obtain ⟨hwa,hwf⟩:=Kd.R_celln false HD5.out (m:Int) (Int.natCast_nonneg m) hmI;rw [Int.toNat_natCast] at hwa hwf;have h1:=Kd.R_putn HD5.out (m:Int) bb;rw [Int.toNat_natCast] at h1;have HD6:=am h1;have HE6:=am (HQ5.out.setCell (p:=⟨g,m,none⟩) HGB.out (.bool bb));clear h1 hb5 yp y4 y0 y1 y2)
     | ((with_reducible refine gate_store (t:=4) (p:=54) rfl ?_);refine store_event (t:=4) (p:=54) (v:=?vo) (w1:=(w5.setCell ⟨g,m,none⟩ (.bool bb))) ?hg ?ho ?hn ?hr ?_;(case ho=>rfl);(case hg=>rfl);(case hn=>rfl);(case hr=>first | (go_simp;done) | (go_simp;rfl));intro wz hwz;rw [← hwz] at HD6 HE6;clear hwz hwa hwf))
    go_roundw
    case rel=>exact ⟨m,A.set m bb,by have:=HK.out;omega,by first | rfl | simp,by rw [List.length_set];exact HAL.out,⟨fun j hj=>by rw [getB_set,if_neg o_m];exact HAF.out j o_m⟩,HDW2,HD6,HE6⟩
    case measure=>simp [intOf] <;> omega
   have hbe:(((fm:Nat):Int) == ((far:Nat):Int)) = false:=by rw [beq_eq_false_iff_ne];omega
   obtain ⟨l,hl⟩:∃ l,s.N.getD m [] = l:=⟨_,rfl⟩
   rw [hl] at Z8 HCX hn4 hnk
   have y8:=(HQ.out.cell (World.block_lt_of_cell? W _ Z8.out)).trans Z8.out
   have HN4:=am hn4
   have HNK:=am hnk
   have hl4:(l.length:Int) = 4:=by omega
   have HDW2:=am (show downG s nm goal far m (A.set m (anyG s far A m l)) = goodL s nm goal far by rw [← HDW.out,downG_ne (by rw [HFM.out];exact hfe),hl])
   have HFE:=am hfe
   obtain ⟨bx,ox,rfl,hbx,hcx⟩:=C_place HCX.out (show 0 < l.length by omega)
   have HX:=am (fun j (hj:j < l.length)=>hcx j ((l.getD j 0:Nat):Int) (by unfold castsI;rw [List.getElem?_map,List.getElem?_eq_getElem hj,← getD_lt (d:=0) hj];rfl):∀ j,j < l.length → W.cell? ⟨bx,ox + j,none⟩ = some (.int .i64 ((l.getD j 0:Nat):Int)))
   have HBX:=am hbx
   have HAM:=am (HAF.out m (Nat.lt_succ_self m))
   clear hfm hfe hn4 hnk hl hcx hbx
   go_wp2
   go_loopw [12,63] (fun v12 v63 wq=>∃ (j:Nat),j ≤ l.length ∧ v63 = .int .i64 j ∧ Aside0 (Kd.R Kd.bool 4 wq W.heap.size (fun _=>True) (.slice (some ⟨g,0,none⟩) s.T.length cap) (A.set m (anyG s far A m (l.take j)))) ∧ Aside0 (Below W.heap.size W wq)) (fun _ v63 _=>l.length - (intOf v63).toNat)
   case atStart=>exact ⟨0,Nat.zero_le _,rfl,⟨by rw [show anyG s far A m (l.take 0) = false from rfl,set_same HAM.out];exact HD.out⟩,HQ⟩
   case round =>
    obtain ⟨j,hj,rfl,HDD,HQ2⟩:=hrel
    by_cases hlt2:j < l.length
    rotate_left
    ·have hge2:¬ (j:Int) < (l.length:Int):=by omega
     obtain rfl:j = l.length:=by omega
     rw [List.take_length] at HDD
     clear hj hlt2
     go_wp2
     go_roundw
     case rel=>exact ⟨m,A.set m (anyG s far A m l),by have:=HK.out;omega,by first | rfl | simp,by rw [List.length_set];exact HAL.out,⟨fun j hj=>by rw [getB_set,if_neg o_m];exact HAF.out j o_m⟩,HDW2,HDD,HQ2⟩
     case measure=>simp [intOf] <;> omega
    have hltI2:(j:Int) < (l.length:Int):=by omega
    have hw2:IntKind.i64.wrap ((j:Int) + 1) = ((j + 1:Nat):Int):=by rw [IntKind.wrap_i64];have:=HN4.out;omega
    obtain ⟨a,hae⟩:∃ a,l.getD j 0 = a:=⟨_,rfl⟩
    have han:a < s.T.length:=HNK.out a (by rw [← hae];exact getD_mem hlt2)
    have hX:=HX.out j hlt2
    rw [hae] at hX
    have xa:=(HQ2.out.cell (p:=⟨bx,ox + j,none⟩) HBX.out).trans hX
    have HAS:=am (anyG_succ s far A m l hlt2)
    rw [hae,HFM.out] at HAS
    obtain ⟨pa,_,_,_,_,zpa,_,_,_,_,za4,_⟩:=HST.out wr HQ2.out a han
    obtain ⟨fa,hfa⟩:∃ x,s.F.getD a 0 = x:=⟨_,rfl⟩
    rw [hfa] at za4 HAS
    have yp2:=(HQ2.out.cell (World.block_lt_of_cell? W _ ZP.out)).trans ZP.out
    have y42:=(HQ2.out.cell (World.block_lt_of_cell? W _ Z4.out)).trans Z4.out
    have haI:(a:Int) < (s.T.length:Int):=by omega
    have ha0:(0:Int) ≤ (a:Int):=by omega
    obtain ⟨q,hq⟩:∃ x,anyG s far A m (l.take j) = x:=⟨_,rfl⟩
    rw [hq] at HDD HAS
    obtain ⟨hga,hgf⟩:=Kd.R_celln false HDD.out (m:Int) hgm hmI
    rw [Int.toNat_natCast,rd_bool,getB_set,if_pos ⟨rfl,by rw [HAL.out];omega⟩] at hga
    rw [Int.toNat_natCast] at hgf
    have HJ:=am hlt2
    have hwf1:IntKind.i64.wrap ((fm:Int) + 1) = ((fm + 1:Nat):Int):=by
     have h1:=far_le HO2.out.ok (i:=m) o_m
     rw [IntKind.wrap_i64];have:=HM.out;have:=HFM.out;omega
    have HWF2:=am (show wrap64 ((fm:Int) + 1) = ((fm + 1:Nat):Int) by rw [← i64_w];exact hwf1)
    have HDDr:=am (Kd.R_drew HDD.out)
    have HQ2r:=am (below_drew1 HQ2.out)
    cases q with
    | true =>
     as_aux_lemma =>
      have HS2:=am (show anyG s far A m (l.take (j + 1)) = true from by rw [HAS.out,Bool.true_or])
      (try clear HO2);(try clear HO3);(try clear HST);(try clear HFR);(try clear HM);(try clear HPOS);(try clear HAF);(try clear HDW);(try clear HK);(try clear HAL);(try clear HFM);(try clear ZP);(try clear Z0);(try clear Z1);(try clear Z2);(try clear Z4);(try clear Z8);(try clear HCG);(try clear HC);(try clear HCX);(try clear H10);(try clear HN4);(try clear HNK);(try clear HDW2);(try clear HFE);(try clear HX);(try clear HBX);(try clear HAM);(try clear HDD);(try clear HQ2);(try clear HQ);(try clear HD);(try clear HAS);(try clear HB7);(try clear HO7);(try clear HWF2k);(try clear yp);(try clear y4);(try clear y8);(try clear hcx);(try clear hbx);(try clear hn4);(try clear hnk);(try clear hw1);(try clear hw2x)
      go_wp2
      have hwf2:=HWF2.out
      refine start_ (n:=43) (S:=fun w'=>w'.cell? ⟨g,m,none⟩ = some (.bool true) ∧ w'.cell? ⟨b,o + m,none⟩ = some (.pointer (some ⟨p,0,none⟩)) ∧ w'.cell? ⟨p,4,none⟩ = some (.int .i64 (fm:Int)) ∧ w'.cell? ⟨b,o + a,none⟩ = some (.pointer (some ⟨pa,0,none⟩)) ∧ w'.cell? ⟨pa,4,none⟩ = some (.int .i64 (fa:Int))) (ds:=[42]) (bm 43 0) k_r rfl rfl ⟨hga,yp2,y42,zpa,za4⟩ (fun hHeld=>?_)
      have hga':wr.drew.cell? ⟨g,m,none⟩ = some (.bool true):=hga
      have hgf':wr.drew.frozen? ⟨g,m,none⟩ = false:=hgf
      generalize wr.drew = wd at hHeld hga' hgf' HDDr HQ2r ⊢
      refine py0 (i:=0) (N:=some 67) (bm 43 1) ?_
      refine py0 (i:=1) (N:=some 68) (bm 43 3) ?_
      refine py0 (i:=2) (N:=some 69) (bm 43 7) ?_
      refine py0 (i:=3) (N:=some 70) (bm 43 15) ?_
      refine py0 (i:=4) (N:=some 71) (bm 43 31) ?_
      refine tkk5 (i:=5) (N:=some 72) (bm 43 63) hHeld ?_
      refine py0 (i:=6) (N:=some 73) (bm 43 127) ?_
      refine pure_ (i:=7) (N:=some 74) (v:=undef) (a':=?_) (bm 43 255) rfl rfl k_r (fun _ _ _ h=>h) (Or.inr ⟨by rfl,rfl⟩) ?_ ?_
      rotate_left
      ·simp only [Act.put,ac_]
       rfl
      refine pure_ (i:=8) (N:=some 75) (v:=undef) (a':=?_) (bm 43 511) rfl rfl k_r (fun _ _ _ h=>h) (Or.inr ⟨by rfl,rfl⟩) ?_ ?_
      rotate_left
      ·simp only [Act.put,ac_]
       rfl
      refine pure_ (i:=9) (N:=some 76) (v:=undef) (a':=?_) (bm 43 1023) rfl rfl k_r (fun _ _ _ h=>h) (Or.inr ⟨by rfl,rfl⟩) ?_ ?_
      rotate_left
      ·simp only [Act.put,ac_]
       rfl
      refine pure_ (i:=10) (N:=some 77) (v:=undef) (a':=?_) (bm 43 2047) rfl rfl k_r (fun _ _ _ h=>h) (Or.inr ⟨by rfl,rfl⟩) ?_ ?_
      rotate_left
      ·simp only [Act.put,ac_]
       rfl
      refine pure_ (i:=11) (N:=some 78) (v:=undef) (a':=?_) (bm 43 4095) rfl rfl k_r (fun _ _ _ h=>h) (Or.inr ⟨by rfl,rfl⟩) ?_ ?_
      rotate_left
      ·simp only [Act.put,ac_]
       rfl
      refine pure_ (i:=12) (N:=some 79) (v:=undef) (a':=?_) (bm 43 8191) rfl rfl k_r (fun _ _ _ h=>h) (Or.inr ⟨by rfl,rfl⟩) ?_ ?_
      rotate_left
      ·simp only [Act.put,ac_]
       rfl
      refine pure_ (i:=13) (N:=some 80) (v:=undef) (a':=?_) (bm 43 16383) rfl rfl k_r (fun _ _ _ h=>h) (Or.inr ⟨by rfl,rfl⟩) ?_ ?_
      rotate_left
      ·simp only [Act.put,ac_]
       rfl
      refine pure_ (i:=14) (N:=some 81) (v:=undef) (a':=?_) (bm 43 32767) rfl rfl k_r (fun _ _ _ h=>h) (Or.inr ⟨by rfl,rfl⟩) ?_ ?_
      rotate_left
      ·simp only [Act.put,ac_]
       rfl
      refine pure_ (i:=15) (N:=some 82) (v:=undef) (a':=?_) (bm 43 65535) rfl rfl k_r (fun _ _ _ h=>h) (Or.inr ⟨by rfl,rfl⟩) ?_ ?_
      rotate_left
      ·simp only [Act.put,ac_]
       rfl
      refine pure_ (i:=16) (N:=some 83) (v:=undef) (a':=?_) (bm 43 131071) rfl rfl k_r (fun _ _ _ h=>h) (Or.inr ⟨by rfl,rfl⟩) ?_ ?_
      rotate_left
      ·simp only [Act.put,ac_]
       rfl
      refine pure_ (i:=17) (N:=some 84) (v:=undef) (a':=?_) (bm 43 262143) rfl rfl k_r (fun _ _ _ h=>h) (Or.inr ⟨by rfl,rfl⟩) ?_ ?_
      rotate_left
      ·simp only [Act.put,ac_]
       rfl
      refine pure_ (i:=18) (N:=some 85) (v:=undef) (a':=?_) (bm 43 524287) rfl rfl k_r (fun _ _ _ h=>h) (Or.inr ⟨by rfl,rfl⟩) ?_ ?_
      rotate_left
      ·simp only [Act.put,ac_]
       rfl
      refine pure_ (i:=19) (N:=some 86) (v:=undef) (a':=?_) (bm 43 1048575) rfl rfl k_r (fun _ _ _ h=>h) (Or.inr ⟨by rfl,rfl⟩) ?_ ?_
      rotate_left
      ·simp only [Act.put,ac_]
       rfl
      refine pure_ (i:=20) (N:=some 87) (v:=undef) (a':=?_) (bm 43 2097151) rfl rfl k_r (fun _ _ _ h=>h) (Or.inr ⟨by rfl,rfl⟩) ?_ ?_
      rotate_left
      ·simp only [Act.put,ac_]
       rfl
      refine pure_ (i:=21) (N:=some 88) (v:=undef) (a':=?_) (bm 43 4194303) rfl rfl k_r (fun _ _ _ h=>h) (Or.inr ⟨by rfl,rfl⟩) ?_ ?_
      rotate_left
      ·simp only [Act.put,ac_]
       rfl
      refine pure_ (i:=22) (N:=some 89) (v:=undef) (a':=?_) (bm 43 8388607) rfl rfl k_r (fun _ _ _ h=>h) (Or.inr ⟨by rfl,rfl⟩) ?_ ?_
      rotate_left
      ·simp only [Act.put,ac_]
       rfl
      refine pure_ (i:=23) (N:=some 90) (v:=undef) (a':=?_) (bm 43 16777215) rfl rfl k_r (fun _ _ _ h=>h) (Or.inr ⟨by rfl,rfl⟩) ?_ ?_
      rotate_left
      ·simp only [Act.put,ac_]
       rfl
      refine pure_ (i:=24) (N:=some 91) (v:=undef) (a':=?_) (bm 43 33554431) rfl rfl k_r (fun _ _ _ h=>h) (Or.inr ⟨by rfl,rfl⟩) ?_ ?_
      rotate_left
      ·simp only [Act.put,ac_]
       rfl
      refine pure_ (i:=25) (N:=some 92) (v:=undef) (a':=?_) (bm 43 67108863) rfl rfl k_r (fun _ _ _ h=>h) (Or.inr ⟨by rfl,rfl⟩) ?_ ?_
      rotate_left
      ·simp only [Act.put,ac_]
       rfl
      refine pure_ (i:=26) (N:=some 93) (v:=undef) (a':=?_) (bm 43 134217727) rfl rfl k_r (fun _ _ _ h=>h) (Or.inr ⟨by rfl,rfl⟩) ?_ ?_
      rotate_left
      ·simp only [Act.put,ac_]
       rfl
      refine pure_ (i:=27) (N:=some 94) (v:=undef) (a':=?_) (bm 43 268435455) rfl rfl k_r (fun _ _ _ h=>h) (Or.inr ⟨by rfl,rfl⟩) ?_ ?_
      rotate_left
      ·simp only [Act.put,ac_]
       rfl
      refine pure_ (i:=28) (N:=some 95) (v:=undef) (a':=?_) (bm 43 536870911) rfl rfl k_r (fun _ _ _ h=>h) (Or.inr ⟨by rfl,rfl⟩) ?_ ?_
      rotate_left
      ·simp only [Act.put,ac_]
       rfl
      refine pure_ (i:=29) (N:=some 96) (v:=undef) (a':=?_) (bm 43 1073741823) rfl rfl k_r (fun _ _ _ h=>h) (Or.inr ⟨by rfl,rfl⟩) ?_ ?_
      rotate_left
      ·simp only [Act.put,ac_]
       rfl
      refine pure_ (i:=30) (N:=some 97) (v:=undef) (a':=?_) (bm 43 2147483647) rfl rfl k_r (fun _ _ _ h=>h) (Or.inr ⟨by rfl,rfl⟩) ?_ ?_
      rotate_left
      ·simp only [Act.put,ac_]
       rfl
      refine pure_ (i:=31) (N:=some 98) (v:=undef) (a':=?_) (bm 43 4294967295) rfl rfl k_r (fun _ _ _ h=>h) (Or.inr ⟨by rfl,rfl⟩) ?_ ?_
      rotate_left
      ·simp only [Act.put,ac_]
       rfl
      refine pure_ (i:=32) (N:=some 99) (v:=undef) (a':=?_) (bm 43 8589934591) rfl rfl k_r (fun _ _ _ h=>h) (Or.inr ⟨by rfl,rfl⟩) ?_ ?_
      rotate_left
      ·simp only [Act.put,ac_]
       rfl
      refine pure_ (i:=33) (N:=some 100) (v:=undef) (a':=?_) (bm 43 17179869183) rfl rfl k_r (fun _ _ _ h=>h) (Or.inr ⟨by rfl,rfl⟩) ?_ ?_
      rotate_left
      ·simp only [Act.put,ac_]
       rfl
      refine pure_ (i:=34) (N:=some 101) (v:=undef) (a':=?_) (bm 43 34359738367) rfl rfl k_r (fun _ _ _ h=>h) (Or.inr ⟨by rfl,rfl⟩) ?_ ?_
      rotate_left
      ·simp only [Act.put,ac_]
       rfl
      refine pure_ (i:=35) (N:=some 102) (v:=undef) (a':=?_) (bm 43 68719476735) rfl rfl k_r (fun _ _ _ h=>h) (Or.inr ⟨by rfl,rfl⟩) ?_ ?_
      rotate_left
      ·simp only [Act.put,ac_]
       rfl
      refine pure_ (i:=36) (N:=some 103) (v:=undef) (a':=?_) (bm 43 137438953471) rfl rfl k_r (fun _ _ _ h=>h) (Or.inr ⟨by rfl,rfl⟩) ?_ ?_
      rotate_left
      ·simp only [Act.put,ac_]
       rfl
      refine pure_ (i:=37) (N:=some 104) (v:=undef) (a':=?_) (bm 43 274877906943) rfl rfl k_r (fun _ _ _ h=>h) (Or.inr ⟨by rfl,rfl⟩) ?_ ?_
      rotate_left
      ·simp only [Act.put,ac_]
       rfl
      refine pure_ (i:=38) (N:=some 105) (v:=undef) (a':=?_) (bm 43 549755813887) rfl rfl k_r (fun _ _ _ h=>h) (Or.inr ⟨by rfl,rfl⟩) ?_ ?_
      rotate_left
      ·simp only [Act.put,ac_]
       rfl
      refine pure_ (i:=39) (N:=some 106) (v:=undef) (a':=?_) (bm 43 1099511627775) rfl rfl k_r (fun _ _ _ h=>h) (Or.inr ⟨by rfl,rfl⟩) ?_ ?_
      rotate_left
      ·simp only [Act.put,ac_]
       rfl
      refine py0 (i:=40) (N:=some 107) (bm 43 2199023255551) ?_
      refine py0 (i:=41) (N:=some 108) (bm 43 4398046511103) ?_
      refine last_ (i:=42) (N:=none) (bm 43 8796093022207) rfl rfl k_r d_c (fun K hK=>?_)
      refine skip_ (w1:=?_) (by rfl) rfl ?_ ?_
      rotate_left
      ·go_simp
       rfl
      refine hK.out _ _ ?_
      clear hK K
      refine done_ k_r ?_
      clear hwf2 xa hX hga hgf hga' hgf' yp2 y42 zpa za4
      have h1:=Kd.R_putn HDDr.out (m:Int) true
      rw [Int.toNat_natCast,List.set_set] at h1
      have HD6:=am h1
      have HE6:=am (HQ2r.out.setCell (p:=⟨g,m,none⟩) HGB.out (.bool true))
      clear h1
      generalize wd.setCell ⟨g,m,none⟩ (.bool true) = wz at HD6 HE6 ⊢
      go_wp2
      go_roundw
      case rel=>exact ⟨j + 1,HJ.out,by first | rfl | simp,⟨by rw [HS2.out];exact HD6.out⟩,HE6⟩
      case measure=>have:=HJ.out;simp [intOf];omega
    | false =>
     by_cases hlf:fm < far
     rotate_left
     ·have hlfI:¬ ((fm:Nat):Int) < ((far:Nat):Int):=by omega
      as_aux_lemma =>
       have HS2:=am (show anyG s far A m (l.take (j + 1)) = false from by rw [HAS.out,decide_eq_false hlf];rfl)
       (try clear HO2);(try clear HO3);(try clear HST);(try clear HFR);(try clear HM);(try clear HPOS);(try clear HAF);(try clear HDW);(try clear HK);(try clear HAL);(try clear HFM);(try clear ZP);(try clear Z0);(try clear Z1);(try clear Z2);(try clear Z4);(try clear Z8);(try clear HCG);(try clear HC);(try clear HCX);(try clear H10);(try clear HN4);(try clear HNK);(try clear HDW2);(try clear HFE);(try clear HX);(try clear HBX);(try clear HAM);(try clear HDD);(try clear HQ2);(try clear HQ);(try clear HD);(try clear HAS);(try clear HB7);(try clear HO7);(try clear HWF2k);(try clear yp);(try clear y4);(try clear y8);(try clear hcx);(try clear hbx);(try clear hn4);(try clear hnk);(try clear hw1);(try clear hw2x)
       go_wp2
       have hwf2:=HWF2.out
       refine start_ (n:=43) (S:=fun w'=>w'.cell? ⟨g,m,none⟩ = some (.bool false) ∧ w'.cell? ⟨b,o + m,none⟩ = some (.pointer (some ⟨p,0,none⟩)) ∧ w'.cell? ⟨p,4,none⟩ = some (.int .i64 (fm:Int)) ∧ w'.cell? ⟨b,o + a,none⟩ = some (.pointer (some ⟨pa,0,none⟩)) ∧ w'.cell? ⟨pa,4,none⟩ = some (.int .i64 (fa:Int))) (ds:=[42]) (bm 43 0) k_r rfl rfl ⟨hga,yp2,y42,zpa,za4⟩ (fun hHeld=>?_)
       have hga':wr.drew.cell? ⟨g,m,none⟩ = some (.bool false):=hga
       have hgf':wr.drew.frozen? ⟨g,m,none⟩ = false:=hgf
       generalize wr.drew = wd at hHeld hga' hgf' HDDr HQ2r ⊢
       refine py0 (i:=0) (N:=some 67) (bm 43 1) ?_
       refine py0 (i:=1) (N:=some 68) (bm 43 3) ?_
       refine py0 (i:=2) (N:=some 69) (bm 43 7) ?_
       refine py0 (i:=3) (N:=some 70) (bm 43 15) ?_
       refine py0 (i:=4) (N:=some 71) (bm 43 31) ?_
       refine tkk5 (i:=5) (N:=some 72) (bm 43 63) hHeld ?_
       refine py0 (i:=6) (N:=some 73) (bm 43 127) ?_
       refine py0 (i:=7) (N:=some 74) (bm 43 255) ?_
       refine py0 (i:=8) (N:=some 75) (bm 43 511) ?_
       refine py0 (i:=9) (N:=some 76) (bm 43 1023) ?_
       refine py0 (i:=14) (N:=some 81) (bm 43 17407) ?_
       refine tkk5 (i:=10) (N:=some 77) (bm 43 18431) hHeld ?_
       refine py0 (i:=11) (N:=some 78) (bm 43 20479) ?_
       refine py0 (i:=12) (N:=some 79) (bm 43 24575) ?_
       refine tkk5 (i:=13) (N:=some 80) (bm 43 32767) hHeld ?_
       refine py0 (i:=15) (N:=some 82) (bm 43 65535) ?_
       refine py0 (i:=16) (N:=some 83) (bm 43 131071) ?_
       refine pure_ (i:=17) (N:=some 84) (v:=undef) (a':=?_) (bm 43 262143) rfl rfl k_r (fun _ _ _ h=>h) (Or.inr ⟨by rfl,rfl⟩) ?_ ?_
       rotate_left
       ·simp only [Act.put,ac_]
        rfl
       refine pure_ (i:=18) (N:=some 85) (v:=undef) (a':=?_) (bm 43 524287) rfl rfl k_r (fun _ _ _ h=>h) (Or.inr ⟨by rfl,rfl⟩) ?_ ?_
       rotate_left
       ·simp only [Act.put,ac_]
        rfl
       refine pure_ (i:=19) (N:=some 86) (v:=undef) (a':=?_) (bm 43 1048575) rfl rfl k_r (fun _ _ _ h=>h) (Or.inr ⟨by rfl,rfl⟩) ?_ ?_
       rotate_left
       ·simp only [Act.put,ac_]
        rfl
       refine pure_ (i:=20) (N:=some 87) (v:=undef) (a':=?_) (bm 43 2097151) rfl rfl k_r (fun _ _ _ h=>h) (Or.inr ⟨by rfl,rfl⟩) ?_ ?_
       rotate_left
       ·simp only [Act.put,ac_]
        rfl
       refine pure_ (i:=21) (N:=some 88) (v:=undef) (a':=?_) (bm 43 4194303) rfl rfl k_r (fun _ _ _ h=>h) (Or.inr ⟨by rfl,rfl⟩) ?_ ?_
       rotate_left
       ·simp only [Act.put,ac_]
        rfl
       refine pure_ (i:=22) (N:=some 89) (v:=undef) (a':=?_) (bm 43 8388607) rfl rfl k_r (fun _ _ _ h=>h) (Or.inr ⟨by rfl,rfl⟩) ?_ ?_
       rotate_left
       ·simp only [Act.put,ac_]
        rfl
       refine pure_ (i:=23) (N:=some 90) (v:=undef) (a':=?_) (bm 43 16777215) rfl rfl k_r (fun _ _ _ h=>h) (Or.inr ⟨by rfl,rfl⟩) ?_ ?_
       rotate_left
       ·simp only [Act.put,ac_]
        rfl
       refine pure_ (i:=24) (N:=some 91) (v:=undef) (a':=?_) (bm 43 33554431) rfl rfl k_r (fun _ _ _ h=>h) (Or.inr ⟨by rfl,rfl⟩) ?_ ?_
       rotate_left
       ·simp only [Act.put,ac_]
        rfl
       refine pure_ (i:=25) (N:=some 92) (v:=undef) (a':=?_) (bm 43 67108863) rfl rfl k_r (fun _ _ _ h=>h) (Or.inr ⟨by rfl,rfl⟩) ?_ ?_
       rotate_left
       ·simp only [Act.put,ac_]
        rfl
       refine pure_ (i:=26) (N:=some 93) (v:=undef) (a':=?_) (bm 43 134217727) rfl rfl k_r (fun _ _ _ h=>h) (Or.inr ⟨by rfl,rfl⟩) ?_ ?_
       rotate_left
       ·simp only [Act.put,ac_]
        rfl
       refine pure_ (i:=27) (N:=some 94) (v:=undef) (a':=?_) (bm 43 268435455) rfl rfl k_r (fun _ _ _ h=>h) (Or.inr ⟨by rfl,rfl⟩) ?_ ?_
       rotate_left
       ·simp only [Act.put,ac_]
        rfl
       refine pure_ (i:=28) (N:=some 95) (v:=undef) (a':=?_) (bm 43 536870911) rfl rfl k_r (fun _ _ _ h=>h) (Or.inr ⟨by rfl,rfl⟩) ?_ ?_
       rotate_left
       ·simp only [Act.put,ac_]
        rfl
       refine pure_ (i:=29) (N:=some 96) (v:=undef) (a':=?_) (bm 43 1073741823) rfl rfl k_r (fun _ _ _ h=>h) (Or.inr ⟨by rfl,rfl⟩) ?_ ?_
       rotate_left
       ·simp only [Act.put,ac_]
        rfl
       refine pure_ (i:=30) (N:=some 97) (v:=undef) (a':=?_) (bm 43 2147483647) rfl rfl k_r (fun _ _ _ h=>h) (Or.inr ⟨by rfl,rfl⟩) ?_ ?_
       rotate_left
       ·simp only [Act.put,ac_]
        rfl
       refine pure_ (i:=31) (N:=some 98) (v:=undef) (a':=?_) (bm 43 4294967295) rfl rfl k_r (fun _ _ _ h=>h) (Or.inr ⟨by rfl,rfl⟩) ?_ ?_
       rotate_left
       ·simp only [Act.put,ac_]
        rfl
       refine pure_ (i:=32) (N:=some 99) (v:=undef) (a':=?_) (bm 43 8589934591) rfl rfl k_r (fun _ _ _ h=>h) (Or.inr ⟨by rfl,rfl⟩) ?_ ?_
       rotate_left
       ·simp only [Act.put,ac_]
        rfl
       refine py0 (i:=33) (N:=some 100) (bm 43 17179869183) ?_
       refine py0 (i:=34) (N:=some 101) (bm 43 34359738367) ?_
       refine pure_ (i:=35) (N:=some 102) (v:=undef) (a':=?_) (bm 43 68719476735) rfl rfl k_r (fun _ _ _ h=>h) (Or.inr ⟨by rfl,rfl⟩) ?_ ?_
       rotate_left
       ·simp only [Act.put,ac_]
        rfl
       refine pure_ (i:=36) (N:=some 103) (v:=undef) (a':=?_) (bm 43 137438953471) rfl rfl k_r (fun _ _ _ h=>h) (Or.inr ⟨by rfl,rfl⟩) ?_ ?_
       rotate_left
       ·simp only [Act.put,ac_]
        rfl
       refine pure_ (i:=37) (N:=some 104) (v:=undef) (a':=?_) (bm 43 274877906943) rfl rfl k_r (fun _ _ _ h=>h) (Or.inr ⟨by rfl,rfl⟩) ?_ ?_
       rotate_left
       ·simp only [Act.put,ac_]
        rfl
       refine pure_ (i:=38) (N:=some 105) (v:=undef) (a':=?_) (bm 43 549755813887) rfl rfl k_r (fun _ _ _ h=>h) (Or.inr ⟨by rfl,rfl⟩) ?_ ?_
       rotate_left
       ·simp only [Act.put,ac_]
        rfl
       refine py0 (i:=39) (N:=some 106) (bm 43 1099511627775) ?_
       refine py0 (i:=40) (N:=some 107) (bm 43 2199023255551) ?_
       refine py0 (i:=41) (N:=some 108) (bm 43 4398046511103) ?_
       refine last_ (i:=42) (N:=none) (bm 43 8796093022207) rfl rfl k_r d_c (fun K hK=>?_)
       refine skip_ (w1:=?_) (by rfl) rfl ?_ ?_
       rotate_left
       ·go_simp
        rfl
       refine hK.out _ _ ?_
       clear hK K
       refine done_ k_r ?_
       clear hwf2 xa hX hga hgf hga' hgf' yp2 y42 zpa za4
       have h1:=Kd.R_putn HDDr.out (m:Int) false
       rw [Int.toNat_natCast,List.set_set] at h1
       have HD6:=am h1
       have HE6:=am (HQ2r.out.setCell (p:=⟨g,m,none⟩) HGB.out (.bool false))
       clear h1
       generalize wd.setCell ⟨g,m,none⟩ (.bool false) = wz at HD6 HE6 ⊢
       go_wp2
       go_roundw
       case rel=>exact ⟨j + 1,HJ.out,by first | rfl | simp,⟨by rw [HS2.out];exact HD6.out⟩,HE6⟩
       case measure=>have:=HJ.out;simp [intOf];omega
     have hlfI:((fm:Nat):Int) < ((far:Nat):Int):=by omega
     by_cases hfn:fa = fm + 1
     ·have hfb:(((fa:Nat):Int) == ((fm + 1:Nat):Int)) = true:=by rw [hfn];exact beq_self_eq_true _
      have hfb2:(((fa:Nat):Int) == (fm:Int) + 1) = true:=hfb
      have hne:¬ m = a:=fun e=>by subst e;have h1:=HFM.out;rw [hfa] at h1;omega
      obtain ⟨gv,hgv⟩:∃ x,A.getD a false = x:=⟨_,rfl⟩
      obtain ⟨xg,_⟩:=Kd.R_celln false HDD.out (a:Int) ha0 haI
      rw [Int.toNat_natCast,rd_bool,getB_set,if_neg (fun h=>hne h.1),hgv] at xg
      as_aux_lemma =>
       have HS2:=am (show anyG s far A m (l.take (j + 1)) = gv from by rw [HAS.out,decide_eq_true hlf,hfn,beq_self_eq_true,hgv];simp)
       (try clear HO2);(try clear HO3);(try clear HST);(try clear HFR);(try clear HM);(try clear HPOS);(try clear HAF);(try clear HDW);(try clear HK);(try clear HAL);(try clear HFM);(try clear ZP);(try clear Z0);(try clear Z1);(try clear Z2);(try clear Z4);(try clear Z8);(try clear HCG);(try clear HC);(try clear HCX);(try clear H10);(try clear HN4);(try clear HNK);(try clear HDW2);(try clear HFE);(try clear HX);(try clear HBX);(try clear HAM);(try clear HDD);(try clear HQ2);(try clear HQ);(try clear HD);(try clear HAS);(try clear HB7);(try clear HO7);(try clear HWF2k);(try clear yp);(try clear y4);(try clear y8);(try clear hcx);(try clear hbx);(try clear hn4);(try clear hnk);(try clear hw1);(try clear hw2x)
       go_wp2
       have hwf2:=HWF2.out
       refine start_ (n:=43) (S:=fun w'=>w'.cell? ⟨g,m,none⟩ = some (.bool false) ∧ w'.cell? ⟨b,o + m,none⟩ = some (.pointer (some ⟨p,0,none⟩)) ∧ w'.cell? ⟨p,4,none⟩ = some (.int .i64 (fm:Int)) ∧ w'.cell? ⟨b,o + a,none⟩ = some (.pointer (some ⟨pa,0,none⟩)) ∧ w'.cell? ⟨pa,4,none⟩ = some (.int .i64 (fa:Int)) ∧ w'.cell? ⟨g,a,none⟩ = some (.bool gv)) (ds:=[42]) (bm 43 0) k_r rfl rfl ⟨hga,yp2,y42,zpa,za4,xg⟩ (fun hHeld=>?_)
       have hga':wr.drew.cell? ⟨g,m,none⟩ = some (.bool false):=hga
       have hgf':wr.drew.frozen? ⟨g,m,none⟩ = false:=hgf
       generalize wr.drew = wd at hHeld hga' hgf' HDDr HQ2r ⊢
       refine py0 (i:=0) (N:=some 67) (bm 43 1) ?_
       refine py0 (i:=1) (N:=some 68) (bm 43 3) ?_
       refine py0 (i:=2) (N:=some 69) (bm 43 7) ?_
       refine py0 (i:=3) (N:=some 70) (bm 43 15) ?_
       refine py0 (i:=4) (N:=some 71) (bm 43 31) ?_
       refine tkk6 (i:=5) (N:=some 72) (bm 43 63) hHeld ?_
       refine py0 (i:=6) (N:=some 73) (bm 43 127) ?_
       refine py0 (i:=7) (N:=some 74) (bm 43 255) ?_
       refine py0 (i:=8) (N:=some 75) (bm 43 511) ?_
       refine py0 (i:=9) (N:=some 76) (bm 43 1023) ?_
       refine py0 (i:=14) (N:=some 81) (bm 43 17407) ?_
       refine tkk6 (i:=10) (N:=some 77) (bm 43 18431) hHeld ?_
       refine py0 (i:=11) (N:=some 78) (bm 43 20479) ?_
       refine py0 (i:=12) (N:=some 79) (bm 43 24575) ?_
       refine tkk6 (i:=13) (N:=some 80) (bm 43 32767) hHeld ?_
       refine py0 (i:=15) (N:=some 82) (bm 43 65535) ?_
       refine py0 (i:=16) (N:=some 83) (bm 43 131071) ?_
       refine py0 (i:=17) (N:=some 84) (bm 43 262143) ?_
       refine py0 (i:=18) (N:=some 85) (bm 43 524287) ?_
       refine py0 (i:=19) (N:=some 86) (bm 43 1048575) ?_
       refine py0 (i:=24) (N:=some 91) (bm 43 17825791) ?_
       refine py0 (i:=25) (N:=some 92) (bm 43 51380223) ?_
       refine py0 (i:=26) (N:=some 93) (bm 43 118489087) ?_
       refine tkk6 (i:=20) (N:=some 87) (bm 43 119537663) hHeld ?_
       refine py0 (i:=21) (N:=some 88) (bm 43 121634815) ?_
       refine py0 (i:=22) (N:=some 89) (bm 43 125829119) ?_
       refine tkk6 (i:=23) (N:=some 90) (bm 43 134217727) hHeld ?_
       refine tkk6 (i:=27) (N:=some 94) (bm 43 268435455) hHeld ?_
       refine py0 (i:=28) (N:=some 95) (bm 43 536870911) ?_
       refine py0 (i:=29) (N:=some 96) (bm 43 1073741823) ?_
       refine tkk6 (i:=30) (N:=some 97) (bm 43 2147483647) hHeld ?_
       refine py0 (i:=31) (N:=some 98) (bm 43 4294967295) ?_
       refine py0 (i:=32) (N:=some 99) (bm 43 8589934591) ?_
       refine py0 (i:=33) (N:=some 100) (bm 43 17179869183) ?_
       refine py0 (i:=34) (N:=some 101) (bm 43 34359738367) ?_
       refine py0 (i:=35) (N:=some 102) (bm 43 68719476735) ?_
       refine py0 (i:=36) (N:=some 103) (bm 43 137438953471) ?_
       refine py0 (i:=37) (N:=some 104) (bm 43 274877906943) ?_
       refine tkk6 (i:=38) (N:=some 105) (bm 43 549755813887) hHeld ?_
       refine py0 (i:=39) (N:=some 106) (bm 43 1099511627775) ?_
       refine py0 (i:=40) (N:=some 107) (bm 43 2199023255551) ?_
       refine py0 (i:=41) (N:=some 108) (bm 43 4398046511103) ?_
       refine last_ (i:=42) (N:=none) (bm 43 8796093022207) rfl rfl k_r d_c (fun K hK=>?_)
       refine skip_ (w1:=?_) (by rfl) rfl ?_ ?_
       rotate_left
       ·go_simp
        rfl
       refine hK.out _ _ ?_
       clear hK K
       refine done_ k_r ?_
       clear hwf2 xa hX hga hgf hga' hgf' yp2 y42 zpa za4 xg
       have h1:=Kd.R_putn HDDr.out (m:Int) gv
       rw [Int.toNat_natCast,List.set_set] at h1
       have HD6:=am h1
       have HE6:=am (HQ2r.out.setCell (p:=⟨g,m,none⟩) HGB.out (.bool gv))
       clear h1
       generalize wd.setCell ⟨g,m,none⟩ (.bool gv) = wz at HD6 HE6 ⊢
       go_wp2
       go_roundw
       case rel=>exact ⟨j + 1,HJ.out,by first | rfl | simp,⟨by rw [HS2.out];exact HD6.out⟩,HE6⟩
       case measure=>have:=HJ.out;simp [intOf];omega
     have hfb:(((fa:Nat):Int) == ((fm + 1:Nat):Int)) = false:=by rw [beq_eq_false_iff_ne];omega
     have hfb2:(((fa:Nat):Int) == (fm:Int) + 1) = false:=hfb
     as_aux_lemma =>
      have HS2:=am (show anyG s far A m (l.take (j + 1)) = false from by rw [HAS.out,beq_eq_false_iff_ne.2 hfn];simp)
      (try clear HO2);(try clear HO3);(try clear HST);(try clear HFR);(try clear HM);(try clear HPOS);(try clear HAF);(try clear HDW);(try clear HK);(try clear HAL);(try clear HFM);(try clear ZP);(try clear Z0);(try clear Z1);(try clear Z2);(try clear Z4);(try clear Z8);(try clear HCG);(try clear HC);(try clear HCX);(try clear H10);(try clear HN4);(try clear HNK);(try clear HDW2);(try clear HFE);(try clear HX);(try clear HBX);(try clear HAM);(try clear HDD);(try clear HQ2);(try clear HQ);(try clear HD);(try clear HAS);(try clear HB7);(try clear HO7);(try clear HWF2k);(try clear yp);(try clear y4);(try clear y8);(try clear hcx);(try clear hbx);(try clear hn4);(try clear hnk);(try clear hw1);(try clear hw2x)
      go_wp2
      have hwf2:=HWF2.out
      refine start_ (n:=43) (S:=fun w'=>w'.cell? ⟨g,m,none⟩ = some (.bool false) ∧ w'.cell? ⟨b,o + m,none⟩ = some (.pointer (some ⟨p,0,none⟩)) ∧ w'.cell? ⟨p,4,none⟩ = some (.int .i64 (fm:Int)) ∧ w'.cell? ⟨b,o + a,none⟩ = some (.pointer (some ⟨pa,0,none⟩)) ∧ w'.cell? ⟨pa,4,none⟩ = some (.int .i64 (fa:Int))) (ds:=[42]) (bm 43 0) k_r rfl rfl ⟨hga,yp2,y42,zpa,za4⟩ (fun hHeld=>?_)
      have hga':wr.drew.cell? ⟨g,m,none⟩ = some (.bool false):=hga
      have hgf':wr.drew.frozen? ⟨g,m,none⟩ = false:=hgf
      generalize wr.drew = wd at hHeld hga' hgf' HDDr HQ2r ⊢
      refine py0 (i:=0) (N:=some 67) (bm 43 1) ?_
      refine py0 (i:=1) (N:=some 68) (bm 43 3) ?_
      refine py0 (i:=2) (N:=some 69) (bm 43 7) ?_
      refine py0 (i:=3) (N:=some 70) (bm 43 15) ?_
      refine py0 (i:=4) (N:=some 71) (bm 43 31) ?_
      refine tkk5 (i:=5) (N:=some 72) (bm 43 63) hHeld ?_
      refine py0 (i:=6) (N:=some 73) (bm 43 127) ?_
      refine py0 (i:=7) (N:=some 74) (bm 43 255) ?_
      refine py0 (i:=8) (N:=some 75) (bm 43 511) ?_
      refine py0 (i:=9) (N:=some 76) (bm 43 1023) ?_
      refine py0 (i:=14) (N:=some 81) (bm 43 17407) ?_
      refine tkk5 (i:=10) (N:=some 77) (bm 43 18431) hHeld ?_
      refine py0 (i:=11) (N:=some 78) (bm 43 20479) ?_
      refine py0 (i:=12) (N:=some 79) (bm 43 24575) ?_
      refine tkk5 (i:=13) (N:=some 80) (bm 43 32767) hHeld ?_
      refine py0 (i:=15) (N:=some 82) (bm 43 65535) ?_
      refine py0 (i:=16) (N:=some 83) (bm 43 131071) ?_
      refine py0 (i:=17) (N:=some 84) (bm 43 262143) ?_
      refine py0 (i:=18) (N:=some 85) (bm 43 524287) ?_
      refine py0 (i:=19) (N:=some 86) (bm 43 1048575) ?_
      refine py0 (i:=24) (N:=some 91) (bm 43 17825791) ?_
      refine py0 (i:=25) (N:=some 92) (bm 43 51380223) ?_
      refine py0 (i:=26) (N:=some 93) (bm 43 118489087) ?_
      refine tkk5 (i:=20) (N:=some 87) (bm 43 119537663) hHeld ?_
      refine py0 (i:=21) (N:=some 88) (bm 43 121634815) ?_
      refine py0 (i:=22) (N:=some 89) (bm 43 125829119) ?_
      refine tkk5 (i:=23) (N:=some 90) (bm 43 134217727) hHeld ?_
      refine tkk5 (i:=27) (N:=some 94) (bm 43 268435455) hHeld ?_
      refine py0 (i:=28) (N:=some 95) (bm 43 536870911) ?_
      refine py0 (i:=29) (N:=some 96) (bm 43 1073741823) ?_
      refine tkk5 (i:=30) (N:=some 97) (bm 43 2147483647) hHeld ?_
      refine py0 (i:=31) (N:=some 98) (bm 43 4294967295) ?_
      refine py0 (i:=32) (N:=some 99) (bm 43 8589934591) ?_
      refine py0 (i:=33) (N:=some 100) (bm 43 17179869183) ?_
      refine py0 (i:=34) (N:=some 101) (bm 43 34359738367) ?_
      refine pure_ (i:=35) (N:=some 102) (v:=undef) (a':=?_) (bm 43 68719476735) rfl rfl k_r (fun _ _ _ h=>h) (Or.inr ⟨by rfl,rfl⟩) ?_ ?_
      rotate_left
      ·simp only [Act.put,ac_]
       rfl
      refine pure_ (i:=36) (N:=some 103) (v:=undef) (a':=?_) (bm 43 137438953471) rfl rfl k_r (fun _ _ _ h=>h) (Or.inr ⟨by rfl,rfl⟩) ?_ ?_
      rotate_left
      ·simp only [Act.put,ac_]
       rfl
      refine pure_ (i:=37) (N:=some 104) (v:=undef) (a':=?_) (bm 43 274877906943) rfl rfl k_r (fun _ _ _ h=>h) (Or.inr ⟨by rfl,rfl⟩) ?_ ?_
      rotate_left
      ·simp only [Act.put,ac_]
       rfl
      refine pure_ (i:=38) (N:=some 105) (v:=undef) (a':=?_) (bm 43 549755813887) rfl rfl k_r (fun _ _ _ h=>h) (Or.inr ⟨by rfl,rfl⟩) ?_ ?_
      rotate_left
      ·simp only [Act.put,ac_]
       rfl
      refine py0 (i:=39) (N:=some 106) (bm 43 1099511627775) ?_
      refine py0 (i:=40) (N:=some 107) (bm 43 2199023255551) ?_
      refine py0 (i:=41) (N:=some 108) (bm 43 4398046511103) ?_
      refine last_ (i:=42) (N:=none) (bm 43 8796093022207) rfl rfl k_r d_c (fun K hK=>?_)
      refine skip_ (w1:=?_) (by rfl) rfl ?_ ?_
      rotate_left
      ·go_simp
       rfl
      refine hK.out _ _ ?_
      clear hK K
      refine done_ k_r ?_
      clear hwf2 xa hX hga hgf hga' hgf' yp2 y42 zpa za4
      have h1:=Kd.R_putn HDDr.out (m:Int) false
      rw [Int.toNat_natCast,List.set_set] at h1
      have HD6:=am h1
      have HE6:=am (HQ2r.out.setCell (p:=⟨g,m,none⟩) HGB.out (.bool false))
      clear h1
      generalize wd.setCell ⟨g,m,none⟩ (.bool false) = wz at HD6 HE6 ⊢
      go_wp2
      go_roundw
      case rel=>exact ⟨j + 1,HJ.out,by first | rfl | simp,⟨by rw [HS2.out];exact HD6.out⟩,HE6⟩
      case measure=>have:=HJ.out;simp [intOf];omega
  | zero =>
   as_aux_lemma =>
    have HDG:=am (show A = goodL s nm goal far from HDW.out)
    have hneg:¬ (0:Int) ≤ -1:=by omega
    rw [show (((0:Nat):Int) - 1) = -1 from rfl]
    clear hneg
    go_wp2_with (first
     | ((with_reducible refine gate_dst (N:=110) rfl ?_);refine Kd.R_lit Kd.string _ 9 ?hg (N:=110) ?hd (xs:=([(⟨#[]⟩:ByteArray)]:List ByteArray)) (inner:=[.string (⟨#[]⟩:ByteArray)]) (ok:=fun _=>True) (okp:=fun _=>True) ?hr ?hp (fun _ hk=>hk) trivial (Below.refl _ _) (Nat.le_refl _) (by simp) ?_;(case hd=>rfl);(case hg=>rfl);(case hr=>first | (go_simp;done) | (go_simp;rfl));(case hp=>exact (Reps.one (show Kd.M Kd.string _ _ _ (⟨#[]⟩:ByteArray) [.string (⟨#[]⟩:ByteArray)] from rfl) (Reps.none _ _)));intro v13 w2 ho hb hg_ hn_;have H13:=am (Kd.R_lower ho HQ.out.size);have HG2:=am (Kd.R_below HD.out hb);have HQ3:=am (below_step HQ.out hb);clear ho hb hg_ hn_)
     | ((with_reducible refine gate_dst (N:=111) rfl ?_);refine Kd.R_lit (Kd.int .i64) _ 3 ?hg (N:=111) ?hd (xs:=([0]:List Int)) (inner:=[.int .i64 0]) (ok:=fun _=>True) (okp:=fun _=>True) ?hr ?hp (fun _ hk=>hk) trivial (Below.refl _ _) (Nat.le_refl _) (by simp) ?_;(case hd=>rfl);(case hg=>rfl);(case hr=>first | (go_simp;done) | (go_simp;rfl));(case hp=>exact (Reps.one (show Kd.M (Kd.int .i64) _ _ _ (0:Int) [.int .i64 0] from rfl) (Reps.none _ _)));intro v14 w3 ho hb hg_ hn_;have H14:=am (Kd.R_lower ho HQ3.out.size);have H13b:=am (Kd.R_below H13.out hb);have HG3:=am (Kd.R_below HG2.out hb);have HQ4:=am (below_step HQ3.out hb);clear ho hb hg_ hn_))
    rw [HDG.out] at HG3
    obtain ⟨GL,hGL⟩:∃ x,goodL s nm goal far = x:=⟨_,rfl⟩
    have HGE:=am (fun a=>by rw [← hGL];rfl:∀ a,GL.getD a false = goodB s nm goal far a)
    rw [hGL] at HG3
    go_loopw [13,14,15] (fun v13 v14 v15 wr=>∃ i:Nat,i ≤ far ∧ v15 = .int .i64 i ∧ Aside0 (Kd.R Kd.string 9 wr W.heap.size (fun _=>True) v13 (txL (solL s nm goal far i))) ∧ Aside0 (Kd.R (Kd.int .i64) 3 wr W.heap.size (fun _=>True) v14 (toL (solL s nm goal far i))) ∧ Aside0 (Kd.R Kd.bool 4 wr W.heap.size (fun _=>True) (.slice (some ⟨g,0,none⟩) s.T.length cap) GL) ∧ Aside0 (Below W.heap.size W wr)) (fun _ _ v15 _=>far - (intOf v15).toNat)
    case atStart=>exact ⟨0,Nat.zero_le _,rfl,⟨by rw [show txL (solL s nm goal far 0) = [(⟨#[]⟩:ByteArray)] from rfl];exact H13b.out⟩,⟨by rw [show toL (solL s nm goal far 0) = [0] from rfl];exact H14.out⟩,HG3,HQ4⟩
    case round =>
     clear H13 H13b H14 HG2 HG3 HQ3 HQ4 HQ HD HDG HDW HAF
     obtain ⟨i,hi,rfl,H13,H14,HG,HQ⟩:=hrel
     obtain ⟨wi,rfl⟩:∃ W,W = wr:=⟨_,rfl⟩
     obtain ⟨A13,c13,rfl⟩:=Kd.R_slice H13.out
     by_cases hlt:i < far
     rotate_left
     ·have hge:¬ (i:Int) < (far:Int):=by omega
      obtain rfl:i = far:=by omega
      clear hi hlt
      go_wp2
      go_ret
      exact ⟨_,rfl,H13.out,HQ.out⟩
     have hltI:(i:Int) < (far:Int):=by omega
     have hwi:IntKind.i64.wrap ((i:Int) + 1) = ((i + 1:Nat):Int):=by rw [IntKind.wrap_i64];have:=HFR.out;omega
     obtain ⟨A14,c14,rfl⟩:=Kd.R_slice H14.out
     have HLK:=am (solL_ok (n:=nm) (goal:=goal) (far:=far) HO2.out (i:=i))
     have HLM:=am (solL_most (n:=nm) (goal:=goal) (far:=far) HO2.out HO3.out (i:=i) (by have:=HFR.out;omega))
     have HLM1:=am (solL_most (n:=nm) (goal:=goal) (far:=far) HO2.out HO3.out (i:=i + 1) (by have:=HFR.out;omega))
     have HSU:=am (solL_succ s nm goal far i)
     obtain ⟨L,hL⟩:∃ x,solL s nm goal far i = x:=⟨_,rfl⟩
     rw [hL] at H13 H14 HLK HLM HSU ⊢
     have HI:=am hlt
     have C13:=am (Kd.R_reads' H13.out).2.2
     have C14:=am (Kd.R_reads' H14.out).2.2
     have HTL:=am (txL_len L)
     have HEL:=am (toL_len L)
     clear hi hlt hL
     go_wp2
     go_loopw [16,17,119] (fun v16 v17 v119 wq=>∃ j:Nat,j ≤ L.length ∧ v119 = .int .i64 j ∧ Aside0 (Kd.R Kd.string 9 wq wi.heap.size (fun _=>True) v16 (txL (kidW (kidsN s (goodB s nm goal far)) (L.take j)))) ∧ Aside0 (Kd.R (Kd.int .i64) 3 wq wi.heap.size (fun _=>True) v17 (toL (kidW (kidsN s (goodB s nm goal far)) (L.take j)))) ∧ Aside0 (Below wi.heap.size wi wq)) (fun _ _ v119 _=>L.length - (intOf v119).toNat)
     case atStart=>exact ⟨0,Nat.zero_le _,rfl,⟨Kd.R_nil _ _ _ _ _⟩,⟨Kd.R_nil _ _ _ _ _⟩,⟨Below.refl _ _⟩⟩
     case round =>
      obtain ⟨j,hj,rfl,H16,H17,HQ2⟩:=hrel
      obtain ⟨wj,rfl⟩:∃ W,W = wr:=⟨_,rfl⟩
      by_cases hlt2:j < L.length
      rotate_left
      ·have hge2:¬ (j:Int) < ((txL L).length:Int):=by rw [HTL.out];omega
       obtain rfl:j = L.length:=by omega
       rw [List.take_length,← HSU.out] at H16 H17
       clear hj hlt2
       have HQW:=am (below_step HQ.out HQ2.out)
       have HG2:=am (Kd.R_below HG.out HQ2.out)
       obtain ⟨A16,c16,rfl⟩:=Kd.R_slice H16.out
       obtain ⟨A17,c17,rfl⟩:=Kd.R_slice H17.out
       go_wp2
       go_roundw
       case rel=>exact ⟨i + 1,HI.out,by first | rfl | simp,⟨Kd.R_lower H16.out HQ.out.size⟩,⟨Kd.R_lower H17.out HQ.out.size⟩,HG2,HQW⟩
       case measure=>have:=HI.out;simp [intOf];omega
      have hjT:(j:Int) < ((txL L).length:Int):=by rw [HTL.out];omega
      have hjE:(j:Int) < ((toL L).length:Int):=by rw [HEL.out];omega
      have hw2:IntKind.i64.wrap ((j:Int) + 1) = ((j + 1:Nat):Int):=by rw [IntKind.wrap_i64];have:=HLM.out;omega
      obtain ⟨b13,o13,rfl,hb13,hc13⟩:=C_place C13.out (by rw [HTL.out];omega)
      obtain ⟨b14,o14,rfl,hb14,hc14⟩:=C_place C14.out (by rw [HEL.out];omega)
      obtain ⟨⟨u,kk⟩,hp⟩:∃ p,L[j]'hlt2 = p:=⟨_,rfl⟩
      have hlk:=HLK.out _ (List.getElem_mem hlt2)
      rw [hp] at hlk
      obtain ⟨hkT,hkF,hul⟩:=hlk
      have x13:=(HQ2.out.cell (p:=⟨b13,o13 + j,none⟩) hb13).trans (hc13 j (txtW u) (by unfold txL;rw [List.getElem?_map,List.getElem?_eq_getElem hlt2,hp];rfl))
      have x14:=(HQ2.out.cell (p:=⟨b14,o14 + j,none⟩) hb14).trans (hc14 j ((kk:Nat):Int) (by unfold toL;rw [List.getElem?_map,List.getElem?_eq_getElem hlt2,hp];rfl))
      have hkI:(kk:Int) < (s.T.length:Int):=by omega
      have hk0:(0:Int) ≤ (kk:Int):=by omega
      have HQW:=am (below_step HQ.out HQ2.out)
      obtain ⟨p,Ag,cg,Ax,cx,zp,_,_,_,_,_,_,z8,_,_,hCx,_⟩:=HST.out W (Below.refl _ _) kk hkT
      have hnl:s.N.getD kk [] ∈ s.N:=getD_mem (by rw [HO2.out.lN];exact hkT)
      obtain ⟨hn4,hnk⟩:=HO2.out.next _ hnl
      have HML:=am (fun d (hd:d ≤ 4)=>by have h1:=moreL_len s nm goal far L hlt2 hd;rw [hp,← HSU.out] at h1;exact Nat.le_trans h1 HLM1.out:∀ d,d ≤ 4 → (moreL s nm goal far (L.take j) (u,kk) d).length ≤ 2199023255552)
      have HMF:=am (moreL_four s nm goal far L hlt2)
      rw [hp] at HMF
      have HMS:=am (fun d=>moreL_succ s nm goal far (L.take j) (u,kk) d)
      obtain ⟨l,hl⟩:∃ l,s.N.getD kk [] = l:=⟨_,rfl⟩
      rw [hl] at z8 hCx hn4 hnk
      have HNK:=am hnk
      have hl4:(l.length:Int) = 4:=by omega
      have HL4:=am hn4
      have HLL:=am hl
      obtain ⟨bx,ox,rfl,hbx,hcx⟩:=C_place hCx (show 0 < l.length by omega)
      have HX:=am (fun d (hd:d < l.length)=>hcx d ((l.getD d 0:Nat):Int) (by unfold castsI;rw [List.getElem?_map,List.getElem?_eq_getElem hd,← getD_lt (d:=0) hd];rfl):∀ d,d < l.length → W.cell? ⟨bx,ox + d,none⟩ = some (.int .i64 ((l.getD d 0:Nat):Int)))
      have HBX:=am hbx
      have yp:=(HQW.out.cell (World.block_lt_of_cell? W _ zp)).trans zp
      have y8:=(HQW.out.cell (World.block_lt_of_cell? W _ z8)).trans z8
      obtain ⟨wt,hwt⟩:∃ x,txtW u = x:=⟨_,rfl⟩
      rw [hwt] at x13
      have HWT:=am hwt
      have HWS:=am (show wt.size ≤ 40 by rw [← hwt,txtW_size,hul];have:=HI.out;have:=HFR.out;omega)
      have HKF:=am hkF
      have HJ:=am hlt2
      have HM0:=am (moreL_zero s nm goal far (L.take j) (u,kk))
      clear hj hlt2 hb13 hc13 hb14 hc14 hp hkT hkF hul zp z8 hCx hnl hn4 hnk hl hcx hbx hwt
      go_wp2
      go_loopw [16,17,135] (fun v16 v17 v135 wq=>∃ d:Nat,d ≤ 4 ∧ v135 = .int .i64 d ∧ Aside0 (Kd.R Kd.string 9 wq wi.heap.size (fun _=>True) v16 (txL (moreL s nm goal far (L.take j) (u,kk) d))) ∧ Aside0 (Kd.R (Kd.int .i64) 3 wq wi.heap.size (fun _=>True) v17 (toL (moreL s nm goal far (L.take j) (u,kk) d))) ∧ Aside0 (Below wi.heap.size wi wq)) (fun _ _ v135 _=>4 - (intOf v135).toNat)
      case atStart=>exact ⟨0,Nat.zero_le _,rfl,⟨by rw [HM0.out];exact H16.out⟩,⟨by rw [HM0.out];exact H17.out⟩,HQ2⟩
      case round =>
       clear H16 H17 HQ2 HQW x13 x14 yp y8
       obtain ⟨d,hd,rfl,H16,H17,HQ2⟩:=hrel
       have HQW:=am (below_step HQ.out HQ2.out)
       by_cases hlt3:d < 4
       rotate_left
       ·have hge3:¬ (d:Int) < (l.length:Int):=by rw [hl4];omega
        obtain rfl:d = 4:=by omega
        rw [HMF.out] at H16 H17
        clear hd hlt3
        go_wp2
        go_roundw
        case rel=>exact ⟨j + 1,HJ.out,by first | rfl | simp,H16,H17,HQ2⟩
        case measure=>have:=HJ.out;simp [intOf];omega
       have hdI:(d:Int) < (l.length:Int):=by rw [hl4];omega
       have hdl:d < l.length:=by have:=HL4.out;omega
       have hw3:IntKind.i64.wrap ((d:Int) + 1) = ((d + 1:Nat):Int):=by rw [IntKind.wrap_i64];omega
       obtain ⟨a,hae⟩:∃ a,l.getD d 0 = a:=⟨_,rfl⟩
       have han:a < s.T.length:=HNK.out a (by rw [← hae];exact getD_mem hdl)
       have hX:=HX.out d hdl
       rw [hae] at hX
       have xa:=(HQW.out.cell (p:=⟨bx,ox + d,none⟩) HBX.out).trans hX
       obtain ⟨pa,_,_,_,_,zpa,_,_,_,_,za4,_⟩:=HST.out wr HQW.out a han
       obtain ⟨fa,hfa⟩:∃ x,s.F.getD a 0 = x:=⟨_,rfl⟩
       rw [hfa] at za4
       have haI:(a:Int) < (s.T.length:Int):=by omega
       have ha0:(0:Int) ≤ (a:Int):=by omega
       have HG2:=am (Kd.R_below HG.out HQ2.out)
       obtain ⟨hga,_⟩:=Kd.R_celln false HG2.out (a:Int) ha0 haI
       rw [Int.toNat_natCast,rd_bool] at hga
       have HMD:=am (HMS.out d)
       rw [HLL.out,hae,hfa,HKF.out,← HGE.out a] at HMD
       obtain ⟨ga,hgae⟩:∃ x,GL.getD a false = x:=⟨_,rfl⟩
       rw [hgae] at hga HMD
       have HD4:=am hlt3
       have hmlen:=HML.out d o_m
       obtain ⟨M,hM⟩:∃ x,moreL s nm goal far (L.take j) (u,kk) d = x:=⟨_,rfl⟩
       rw [hM] at H16 H17 HMD hmlen
       have HMN:=am hmlen
       clear hd hlt3 hdl hae han hX hfa hM hgae hmlen
       by_cases hfe:fa = i + 1
       rotate_left
       ·have hfb:(((fa:Nat):Int) == ((i + 1:Nat):Int)) = false:=by rw [beq_eq_false_iff_ne];omega
        have hfb2:(((fa:Nat):Int) == (i:Int) + 1) = false:=hfb
        have HMX:=am (show moreL s nm goal far (L.take j) (u,kk) (d + 1) = M by rw [HMD.out,if_neg (by rw [beq_eq_false_iff_ne.2 hfe];simp)])
        go_wp2
        go_roundw
        case rel=>exact ⟨d + 1,HD4.out,by first | rfl | simp,⟨by rw [HMX.out];exact H16.out⟩,⟨by rw [HMX.out];exact H17.out⟩,HQ2⟩
        case measure=>have:=HD4.out;simp [intOf];omega
       have hfb:(((fa:Nat):Int) == ((i + 1:Nat):Int)) = true:=by rw [hfe];exact beq_self_eq_true _
       have hfb2:(((fa:Nat):Int) == (i:Int) + 1) = true:=hfb
       cases ga with
       | true =>
        have HMX:=am (show moreL s nm goal far (L.take j) (u,kk) (d + 1) = M ++ [(u ++ [d],a)] by rw [HMD.out,if_pos (by rw [hfe,beq_self_eq_true];rfl)])
        have hd0:(0:Int) ≤ (d:Int):=by omega
        have hd1:(d:Int) ≤ (d:Int) + 1:=by omega
        have hd2:(d:Int) + 1 ≤ 4:=by have:=HD4.out;omega
        have ht1:((d:Int) + 1).toNat = d + 1:=by omega
        have hz2:wt.size + (min (d + 1) 4 - d) ≤ 9223372036854775807:=by have:=HWS.out;omega
        have hz3:¬ 9223372036854775807 < wt.size + (min (d + 1) 4 - d):=by have:=HWS.out;omega
        have HTX:=am (show txtW (u ++ [d]) = wt ++ (⟨#[117,114,100,108]⟩:ByteArray).extract d (d + 1) by rw [txtW_snoc,HWT.out,dirs_ex HD4.out])
        obtain ⟨tx,htx⟩:∃ x,wt ++ (⟨#[117,114,100,108]⟩:ByteArray).extract d (d + 1) = x:=⟨_,rfl⟩
        have HTN:=am (HTX.out.trans htx)
        obtain ⟨A16,c16,rfl⟩:=Kd.R_slice H16.out
        obtain ⟨A17,c17,rfl⟩:=Kd.R_slice H17.out
        have HAL1:=am (show ((txL M).length + 1) * 16 ≤ 140737488355328 by rw [txL_len];have:=HMN.out;omega)
        have HAL2:=am (show ((toL M).length + 1) * 8 ≤ 140737488355328 by rw [toL_len];have:=HMN.out;omega)
        clear hfe hfb
        go_wp2_with (first
         | (go_at_call 95;refine (spec_tiDirs.calls _ _ rfl).mono ?_;rintro e w5 ⟨rfl,nd,hnd⟩;have hb5:Below wr.heap.size wr w5:=(by rw [hnd];exact pw_below_drewN (Below.refl _ _) _);have H16b:=am (Kd.R_below H16.out hb5);have H17b:=am (Kd.R_below H17.out hb5);have HQ5:=am (below_step HQ2.out hb5);clear hnd hb5)
         | ((with_reducible refine gate_builtin (b:=.append) (xs:=#[.tmp 156,.tmp 164]) rfl ?_);at_builtin;refine Kd.R_append Kd.string (w0:=wi) wi.heap.size rfl (.tmp 156) (.tmp 164) 35 9 (.string ByteArray.empty) 16 rfl Tryz.underlying35 info9 rfl d_c o_m (.slice A16 (txL M).length c16) (txL M) tx [.string tx] (fun _=>True) (fun _=>False) rfl rfl ?aP (fun _ hk=>hk.elim) ?aF ?aO ?aB ?aS ?aL ?_;(case aP=>exact rfl);(case aB=>exact HQ5.out);(case aF=>exact (fun _ _=>trivial));(case aO=>exact H16b.out);(case aS=>exact HQ5.out.size);(case aL=>exact HAL1.out);intro v6 w6 ho6 hb6 hg6 hat6;have H16c:=am ho6;have HQ6:=am hb6;have H17c:=am (Kd.R_over' H17b.out (Kd.R_typed H16b.out) d_c hg6);clear ho6 hb6 hg6 hat6)
         | ((with_reducible refine gate_builtin (b:=.append) (xs:=#[.tmp 166,.tmp 168]) rfl ?_);at_builtin;refine Kd.R_append (Kd.int .i64) (w0:=wi) wi.heap.size rfl (.tmp 166) (.tmp 168) 40 3 (.int .i64 0) 8 rfl Tryz.underlying40 info3 rfl d_c o_m (.slice A17 (toL M).length c17) (toL M) ((a:Nat):Int) [.int .i64 ((a:Nat):Int)] (fun _=>True) (fun _=>False) rfl rfl ?aP (fun _ hk=>hk.elim) ?aF ?aO ?aB ?aS ?aL ?_;(case aP=>exact rfl);(case aB=>exact HQ6.out);(case aF=>exact (fun _ _=>trivial));(case aO=>exact H17c.out);(case aS=>exact HQ6.out.size);(case aL=>exact HAL2.out);intro v7 w7 ho7 hb7 hg7 hat7;have H17d:=am ho7;have HQ7:=am hb7;have H16d:=am (Kd.R_over' H16c.out (Kd.R_typed H17c.out) d_c hg7);clear ho7 hb7 hg7 hat7))
        go_roundw
        case rel=>exact ⟨d + 1,HD4.out,by first | rfl | simp,⟨by rw [HMX.out,txL_app,show txL [(u ++ [d],a)] = [txtW (u ++ [d])] from rfl,HTN.out];exact H16d.out⟩,⟨by rw [HMX.out,toL_app];exact H17d.out⟩,HQ7⟩
        case measure=>have:=HD4.out;simp [intOf];omega
       | false =>
        have HMX:=am (show moreL s nm goal far (L.take j) (u,kk) (d + 1) = M by rw [HMD.out,if_neg (by simp)])
        go_wp2
        go_roundw
        case rel=>exact ⟨d + 1,HD4.out,by first | rfl | simp,⟨by rw [HMX.out];exact H16.out⟩,⟨by rw [HMX.out];exact H17.out⟩,HQ2⟩
        case measure=>have:=HD4.out;simp [intOf];omega
def spec_AllSolutions.f (t n:ByteArray) (goal:Int):Option (List ByteArray × Bool):=some (allA t n goal)
theorem spec_AllSolutions.calls (a0_0 a0_1:ByteArray) (a0_2:Int) (r1:List ByteArray) (r2:Bool) (w:World) (h:spec_AllSolutions.f a0_0 a0_1 a0_2 = some (r1,r2)) :
  Calls Tryz.prog 24 #[.agg #[.string a0_0,.string a0_1,.int .i64 a0_2]] w fun e w'=>∃ v0_:Value,e = .returned (.tuple #[v0_,.bool r2]) ∧ Kd.R Kd.string 9 w' w.heap.size (fun _=>True) v0_ r1 ∧ Below w.heap.size w w':=by
 have HR:=am (show allA a0_0 a0_1 a0_2 = (r1,r2) from Option.some.inj h)
 have HB:=am (Below.refl w.heap.size w)
 clear h
 obtain ⟨⟨cn,cb⟩,hc⟩:∃ q,cntA a0_0 a0_1 a0_2 = q:=⟨_,rfl⟩
 have HC:=am (show spec_CountSolutions.f a0_0 a0_1 a0_2 = some (cn,cb) from congrArg some hc)
 cases cb with
 | false =>
  obtain ⟨rfl,rfl⟩:[] = r1 ∧ false = r2:=by
   have h:=HR.out
   unfold cntA at hc
   unfold allA at h
   cases hs:puS a0_0 a0_1 a0_2 with
   | none=>rw [hs] at h;exact Prod.mk.inj h
   | some q =>
    rw [hs] at h hc
    simp only at h hc
    by_cases hle:q.2.2.1.F.getD q.2.2.2 0 ≤ 40
    rotate_left
    ·rw [if_neg (fun q=>hle q.1)] at h;exact Prod.mk.inj h
    rw [if_pos hle] at hc;cases (Prod.mk.inj hc).2
  clear hc HR
  go_enter Tryz.func24,Tryz.ntmps24
  go_wp2_with (first
   | (refine bx 1 #[.string a0_0,.string a0_1,.int .i64 a0_2] 30 ?_;intro b1 hg1 w1 hbox1 hb1;have X1:=am hbox1;have z0:w1.cell? ⟨b1,0,none⟩ = some (.string a0_0):=(blk_cell hbox1 0).trans rfl;have z1:w1.cell? ⟨b1,1,none⟩ = some (.string a0_1):=(blk_cell hbox1 1).trans rfl;have z2:w1.cell? ⟨b1,2,none⟩ = some (.int .i64 a0_2):=(blk_cell hbox1 2).trans rfl;have HB1:=am (below_step HB.out hb1);clear hg1 hbox1 hb1)
   | (go_at_call 22;refine (spec_CountSolutions.calls a0_0 a0_1 a0_2 _ _ _ HC.out).mono ?_;rintro e w2 ⟨rfl,hb2⟩;have HB2:=am (below_step HB1.out hb2);have X2:=am (blk_below X1.out hb2);clear hb2 z0 z1 z2;have y0:w2.cell? ⟨b1,0,none⟩ = some (.string a0_0):=(blk_cell X2.out 0).trans rfl;have y1:w2.cell? ⟨b1,1,none⟩ = some (.string a0_1):=(blk_cell X2.out 1).trans rfl;have y2:w2.cell? ⟨b1,2,none⟩ = some (.int .i64 a0_2):=(blk_cell X2.out 2).trans rfl))
  go_ret2
  exact ⟨_,rfl,Kd.R_nil _ _ _ _ _,HB2.out⟩
 | true =>
  obtain ⟨gw,gh,s,i0,hps,hle⟩:∃ gw gh s i0,puS a0_0 a0_1 a0_2 = some (gw,gh,s,i0) ∧ s.F.getD i0 0 ≤ 40:=by
   have h:=hc
   unfold cntA at h
   cases hs:puS a0_0 a0_1 a0_2 with
   | none=>rw [hs] at h;cases (Prod.mk.inj h).2
   | some q =>
    obtain ⟨gw,gh,s,i0⟩:=q
    rw [hs] at h
    simp only at h
    by_cases hle:s.F.getD i0 0 ≤ 40
    rotate_left
    ·rw [if_neg hle] at h;cases (Prod.mk.inj h).2
    exact ⟨gw,gh,s,i0,rfl,hle⟩
  have HA:=am (show allA a0_0 a0_1 a0_2 = if cn ≤ 100 then (txL (solL s (bt a0_1 0) a0_2 (s.F.getD i0 0) (s.F.getD i0 0)),true) else ([],false) by
   unfold allA
   rw [hps]
   simp only
   rw [hc]
   by_cases h1:cn ≤ 100
   ·rw [if_pos h1,if_pos ⟨hle,h1⟩]
   ·rw [if_neg h1,if_neg (fun q=>h1 q.2)])
  by_cases hcn:cn ≤ 100
  rotate_left
  ·have hcI:(100:Int) < cn:=by omega
   rw [if_neg hcn] at HA
   obtain ⟨rfl,rfl⟩:[] = r1 ∧ false = r2:=Prod.mk.inj (HA.out.symm.trans HR.out)
   clear hps hle hc HR HA hcn
   go_enter Tryz.func24,Tryz.ntmps24
   go_wp2_with (first
    | (refine bx 1 #[.string a0_0,.string a0_1,.int .i64 a0_2] 30 ?_;intro b1 hg1 w1 hbox1 hb1;have X1:=am hbox1;have z0:w1.cell? ⟨b1,0,none⟩ = some (.string a0_0):=(blk_cell hbox1 0).trans rfl;have z1:w1.cell? ⟨b1,1,none⟩ = some (.string a0_1):=(blk_cell hbox1 1).trans rfl;have z2:w1.cell? ⟨b1,2,none⟩ = some (.int .i64 a0_2):=(blk_cell hbox1 2).trans rfl;have HB1:=am (below_step HB.out hb1);clear hg1 hbox1 hb1)
    | (go_at_call 22;refine (spec_CountSolutions.calls a0_0 a0_1 a0_2 _ _ _ HC.out).mono ?_;rintro e w2 ⟨rfl,hb2⟩;have HB2:=am (below_step HB1.out hb2);have X2:=am (blk_below X1.out hb2);clear hb2 z0 z1 z2;have y0:w2.cell? ⟨b1,0,none⟩ = some (.string a0_0):=(blk_cell X2.out 0).trans rfl;have y1:w2.cell? ⟨b1,1,none⟩ = some (.string a0_1):=(blk_cell X2.out 1).trans rfl;have y2:w2.cell? ⟨b1,2,none⟩ = some (.int .i64 a0_2):=(blk_cell X2.out 2).trans rfl))
   go_ret2
   exact ⟨_,rfl,Kd.R_nil _ _ _ _ _,HB2.out⟩
  have hcI:¬ (100:Int) < cn:=by omega
  obtain ⟨hpz,hsr,_,_⟩:=puS_some hps
  obtain ⟨cs,_,v,_,hr,o2⟩:=srch_some hsr
  have HP:=am (show spec_puStates.f a0_0 a0_1 a0_2 = some (nodesOf gw gh s,((s.F.getD i0 0:Nat):Int),true) by
   unfold spec_puStates.f
   rw [hps]
   simp only [decide_eq_true hle])
  obtain ⟨fa,hfa⟩:∃ f,s.F.getD i0 0 = f:=⟨_,rfl⟩
  rw [hfa] at hle HP HA
  rw [if_pos hcn] at HA
  obtain ⟨rfl,rfl⟩:txL (solL s (bt a0_1 0) a0_2 fa fa) = r1 ∧ true = r2:=Prod.mk.inj (HA.out.symm.trans HR.out)
  have HO2:=am o2
  have HO3:=am (reach_far v hr)
  have HLE:=am hle
  have hz:=name_byte (puz_name hpz)
  have hnm1:(0:Int) < (a0_1.size:Int):=by omega
  have hnm2:0 < a0_1.size:=by omega
  have hbt:∀ h:0 < a0_1.size,((a0_1[0]'h).toNat:Int) = bt a0_1 0:=bt_at a0_1 0
  have hq0:((0:Int) < (a0_1.size:Int)) = True:=eq_true hnm1
  clear hps hsr o2 v hr hpz hz hle hfa hc HR HA hcn
  go_enter Tryz.func24,Tryz.ntmps24
  go_wp2_with (first
   | (refine bx 1 #[.string a0_0,.string a0_1,.int .i64 a0_2] 30 ?_;intro b1 hg1 w1 hbox1 hb1;have X1:=am hbox1;have z0:w1.cell? ⟨b1,0,none⟩ = some (.string a0_0):=(blk_cell hbox1 0).trans rfl;have z1:w1.cell? ⟨b1,1,none⟩ = some (.string a0_1):=(blk_cell hbox1 1).trans rfl;have z2:w1.cell? ⟨b1,2,none⟩ = some (.int .i64 a0_2):=(blk_cell hbox1 2).trans rfl;have HB1:=am (below_step HB.out hb1);clear hg1 hbox1 hb1)
   | (go_at_call 22;refine (spec_CountSolutions.calls a0_0 a0_1 a0_2 _ _ _ HC.out).mono ?_;rintro e w2 ⟨rfl,hb2⟩;have HB2:=am (below_step HB1.out hb2);have X2:=am (blk_below X1.out hb2);clear hb2 z0 z1 z2;have y0:w2.cell? ⟨b1,0,none⟩ = some (.string a0_0):=(blk_cell X2.out 0).trans rfl;have y1:w2.cell? ⟨b1,1,none⟩ = some (.string a0_1):=(blk_cell X2.out 1).trans rfl;have y2:w2.cell? ⟨b1,2,none⟩ = some (.int .i64 a0_2):=(blk_cell X2.out 2).trans rfl)
   | (go_at_call 53;refine (spec_puStates.calls a0_0 a0_1 a0_2 _ _ _ _ HP.out).mono ?_;rintro e w3 ⟨v3,rfl,ho3,hb3⟩;have HB3:=am (below_step HB2.out hb3);have X3:=am (blk_below X2.out hb3);obtain ⟨b,o,c,rfl,hc_,hst⟩:=states_open HO2.out ho3;have HST:=am hst;clear ho3 hb3 hst hc_ y0 y1 y2))
  have q1:w3.cell? ⟨b1,1,none⟩ = some (.string a0_1):=(blk_cell X3.out 1).trans rfl
  have q2:w3.cell? ⟨b1,2,none⟩ = some (.int .i64 a0_2):=(blk_cell X3.out 2).trans rfl
  refine start_ (n:=10) (S:=fun w'=>w'.cell? ⟨b1,1,none⟩ = some (.string a0_1) ∧ w'.cell? ⟨b1,2,none⟩ = some (.int .i64 a0_2)) (ds:=[]) (bm 10 0) k_r rfl rfl ⟨q1,q2⟩ (fun hHeld=>?_)
  refine py0 (i:=0) (N:=some 26) (bm 10 1) ?_
  refine py0 (i:=1) (N:=some 27) (bm 10 3) ?_
  refine py0 (i:=2) (N:=some 28) (bm 10 7) ?_
  refine py0 (i:=5) (N:=some 31) (bm 10 39) ?_
  refine tkk2 (i:=3) (N:=some 29) (bm 10 47) hHeld ?_
  refine tkk2 (i:=4) (N:=some 30) (bm 10 63) hHeld ?_
  refine tkk2 (i:=6) (N:=some 32) (bm 10 127) hHeld ?_
  refine one_ (i:=7) (N:=some 33) (bm 10 255) rfl rfl k_r d_c (fun K hK=>?_)
  refine goes_ Tryz.func58 k_r rfl #[.slice (some ⟨b,o,none⟩) s.T.length c,.int .i64 (fa:Int),.int .u8 (bt a0_1 0),.int .i64 a0_2] (by rfl) rfl rfl (by (try simp only [List.map_toArray,List.map_cons,List.map_nil]);first | done | rfl) ?_
  refine (puSome_calls HO2.out HO3.out b o c w3.drew (fun W' hb'=>HST.out W' (below_step (below_drew1 (Below.refl _ _)) hb')) fa HLE.out (bt a0_1 0) a0_2).mono ?_
  rintro e w4 ⟨v4,rfl,ho4,hb4⟩
  refine ⟨_,rfl,?_⟩
  have HO4:=am ho4
  have HB4:=am hb4
  have hs1:=(hb4.cell (World.block_lt_of_cell? _ _ hHeld.1)).trans hHeld.1
  have hs2:=(hb4.cell (World.block_lt_of_cell? _ _ hHeld.2)).trans hHeld.2
  clear ho4 hb4
  refine hK.out _ _ ⟨hs1,hs2⟩ (fun hHeld=>?_)
  clear hK K
  refine nm (some 33) ?_
  refine py0 (i:=8) (N:=some 2) (bm 10 511) ?_
  refine py0 (i:=9) (N:=some 3) (bm 10 1023) ?_
  refine done_ k_r ?_
  have HB5:=am (below_step (below_drew1 HB3.out) HB4.out)
  clear hHeld
  go_wp2
  go_ret2
  exact ⟨_,rfl,Kd.R_lower HO4.out HB3.out.size,HB5.out⟩
end Go.Proofs.YtldhkbiomingbaaGreatDoor.F

namespace Go.Proofs.YtldhkbiomingbaaGreatDoor.F
open Go.Proofs.YtldhkbiomingbaaGreatDoor
open Go.RowKit Go.YW.PrintWords Go.YW.PrintLast Go.YW.PrintMore
attribute [local go_sem] max2_int min2_int max_two min_two max_three min_three max_four min_four
def impl_reach_cells.l0:Nat → ByteArray → List Int → List ByteArray → Int → Int → Option (List Int)
 | 0,_,_,_,_,_=>none
 | k + 1,x1,x5,x10,x11,x12=>if x12 < x11 then (if 0 ≤ x12 then (if x12 < (x10.length:Int) then ((impl_read.f (rdOf ByteArray.empty x10 x12)).bind fun bt106=>(if 0 < (x1.size:Int) then ((slices_Index_byte_byte.f k bt106.2.2 (bt x1 0)).bind fun t111=>(if x5.length < 17592186044416 then (impl_reach_cells.l0 k x1 (x5 ++ [t111]) x10 x11 (wrap64 (x12 + 1))) else (none))) else (none))) else (none)) else (none)) else (some x5)
def impl_reach_cells.f (k:Nat) (l0_0:List ByteArray) (l0_1:List Int) (l0_2:List (List Int)) (l0_3:List ByteArray) (a1:ByteArray):Option (List Int):=impl_reach_cells.l0 k a1 (([]:List Int)) l0_0 (l0_0.length:Int) 0
theorem impl_reach_cells.mono_l:∀ k,(∀ y0 y1 y2 y3 y4,LeO (impl_reach_cells.l0 k y0 y1 y2 y3 y4) (impl_reach_cells.l0 (k + 1) y0 y1 y2 y3 y4))
 | 0=>fun _ _ _ _ _ r h=>by simp [impl_reach_cells.l0] at h
 | k + 1=>by
  have ih0:=impl_reach_cells.mono_l k
  ·intro y0 y1 y2 y3 y4
   unfold impl_reach_cells.l0
   have im0:=@slices_Index_byte_byte.mono;exact mo
theorem impl_reach_cells.mono:∀ a0 a1 a2 a3 a4 k,LeO (impl_reach_cells.f k a0 a1 a2 a3 a4) (impl_reach_cells.f (k + 1) a0 a1 a2 a3 a4):=by
 intro a0 a1 a2 a3 a4 k
 have ih0:=impl_reach_cells.mono_l k
 unfold impl_reach_cells.f
 have im0:=@slices_Index_byte_byte.mono;exact mo
def impl_reach_cells.T5:Bool × List (List Nat × List Nat):=(true,[([],[]),([],[]),([1],[1]),([2],[2]),([],[]),([4],[4]),([3,5,2],[3,5]),([6],[6]),([0,7,6],[0,7]),([8,8,0,1,2,3,4,5,6,7,8],[0,8])])
def impl_reach_cells.B5:List Nat:=[0,0,2,6,0,16,62,126,255,511]
theorem impl_reach_cells.tab5:rtab .any (opsOf Tryz.f50 5) = impl_reach_cells.T5:=by kernel_rfl
theorem impl_reach_cells.bits5:waitsOk impl_reach_cells.T5.2 impl_reach_cells.B5 = true:=by kernel_rfl
theorem impl_reach_cells.calls (k:Nat) (A0_0:Option Addr) (c0_0:Nat) (l0_0:List ByteArray) (A0_1:Option Addr) (c0_1:Nat) (l0_1:List Int) (A0_2:Option Addr) (c0_2:Nat) (l0_2:List (List Int)) (A0_3:Option Addr) (c0_3:Nat) (l0_3:List ByteArray) (a1:ByteArray) (r:List Int) (w:World) (hr0_0:Kd.C Kd.string w A0_0 l0_0.length l0_0) (hc0_0:l0_0.length ≤ c0_0) (hr0_1:Kd.C (Kd.int .i64) w A0_1 l0_1.length l0_1) (hc0_1:l0_1.length ≤ c0_1) (hr0_2:Kd.C (Kd.slice 3 (Kd.int .i64)) w A0_2 l0_2.length l0_2) (hc0_2:l0_2.length ≤ c0_2) (hr0_3:Kd.C Kd.string w A0_3 l0_3.length l0_3) (hc0_3:l0_3.length ≤ c0_3) (h:impl_reach_cells.f k l0_0 l0_1 l0_2 l0_3 a1 = some r) :
  Calls Tryz.prog 50 #[.agg #[.slice A0_0 l0_0.length c0_0,.slice A0_1 l0_1.length c0_1,.slice A0_2 l0_2.length c0_2,.slice A0_3 l0_3.length c0_3],.string a1] w fun e w'=>∃ v0_:Value,e = .returned (v0_) ∧ Kd.R (Kd.int .i64) 3 w' w.heap.size (fun _=>True) v0_ r ∧ Below w.heap.size w w':=by
 have hu59:=Tryz.underlying59
 have hfd65_2:∀ (x0_ x1_ x2_:Value) (W:World),(Instr.field 65 (.agg #[x0_,x1_,x2_]) 2).run Tryz.prog W = .ok x2_ W:=fun _ _ _  _=>by kernel_rfl
 have HR0_0:=am hr0_0
 have HC0_0:=am hc0_0
 clear hr0_0 hc0_0
 have HR0_1:=am hr0_1
 have HC0_1:=am hc0_1
 clear hr0_1 hc0_1
 have HR0_2:=am hr0_2
 have HC0_2:=am hc0_2
 clear hr0_2 hc0_2
 have HR0_3:=am hr0_3
 have HC0_3:=am hc0_3
 clear hr0_3 hc0_3
 have HB:=am (Below.refl w.heap.size w)
 have H:(impl_reach_cells.l0 k a1 (([]:List Int)) l0_0 (l0_0.length:Int) 0) = some r:=h
 clear h
 obtain ⟨y102,hy_⟩:∃ y_:List Int,y_ = (([]:List Int)):=⟨_,rfl⟩
 replace H:(impl_reach_cells.l0 k a1 y102 l0_0 (l0_0.length:Int) 0) = some r:=aq5
 have Ny102:=am hy_
 clear hy_
 have H':=am H
 clear H
 go_enter Tryz.func50,Tryz.ntmps50
 go_wp2_with (first | (refine bx 2 #[.slice A0_0 l0_0.length c0_0,.slice A0_1 l0_1.length c0_1,.slice A0_2 l0_2.length c0_2,.slice A0_3 l0_3.length c0_3] 59 ?_;intro gb101 hg w3 hbox hb;have BK101:=am (hbox);have GW101:=am ((by rw [hg];exact (below_size aq2):w.heap.size ≤ gb101));have GE101:=GW101;replace HB:=am (below_step aq2 hb);clear hb hbox hg) | ((with_reducible refine gate_dst (N:=8) rfl ?_);refine Kd.R_lit (Kd.int .i64) _ 3 ?hg (N:=8) ?hd (xs:=([]:List Int)) (inner:=[]) (ok:=fun _=>True) (okp:=fun _=>True) ?hr ?hp (fun _ hk=>hk) trivial (Below.refl _ _) (Nat.le_refl _) (by simp) ?_;(case hd=>rfl);(case hg=>rfl);(case hr=>exact aq13);(case hp=>exact (Reps.none _ _));intro v103 w4 ho5 hb hg_ hnew_;clear hg_ hnew_;(first | rw [← Ny102.out] at ho5 | (simp only [Int.reduceToNat] at ho5;rw [← Ny102.out] at ho5));have HO104:=am (Kd.R_lower ho5 (below_size aq0));replace BK101:=am (bb BK101 hb);replace HB:=am (below_step aq0 hb);clear hb ho5;obtain ⟨hcz6_0,hcz6_1,hcz6_2,hcz6_3,hfz6_0,hfz6_1,hfz6_2,hfz6_3⟩:=blk4_ BK101.out))
 go_loopg [5,12] k (fun kq v5 v12 w'=>∃ (x5_1:List Int) (x12_1:Int),v12 = .int .i64 x12_1 ∧ Aside0 (impl_reach_cells.l0 kq a1 x5_1 l0_0 (l0_0.length:Int) x12_1 = some r) ∧ Aside0 (kq ≤ k) ∧ Aside0 (Kd.R (Kd.int .i64) 3 w' w.heap.size (fun _=>True) v5 x5_1) ∧ Aside0 (w'.heap[gb101]? = some (.cells #[(.slice A0_0 l0_0.length c0_0),(.slice A0_1 l0_1.length c0_1),(.slice A0_2 l0_2.length c0_2),(.slice A0_3 l0_3.length c0_3)] 59 (0,0))) ∧ Aside0 (Below w.heap.size w w'))
 case atStart=>exact ⟨(y102),(0),aq7,H',⟨Nat.le_refl _⟩,⟨aq27⟩,⟨aq1⟩,⟨aq0⟩⟩
 case round =>
  clear H'
  try clear p2
  try clear c5
  try clear hcz6_0
  try clear hcz6_1
  try clear hcz6_2
  try clear hcz6_3
  try clear hfz6_0
  try clear hfz6_1
  try clear hfz6_2
  try clear hfz6_3
  obtain ⟨x5_1,x12_1,rfl,HA,HK1,HO_5,BK101,HB⟩:=hrel
  cases gk with
  | zero=>exact absurd HA.out (by simp [impl_reach_cells.l0])
  | succ k1 =>
   have H:=HA.out
   clear HA
   simp only [impl_reach_cells.l0] at H
   by_cases c7:x12_1 < (l0_0.length:Int)
   rotate_left
   ·rw [if_neg c7] at H
    have c7b0:=decide_eq_false c7
    clear c7
    obtain rfl:=Option.some.inj H
    go_wp2
    go_ret
    exact ⟨_,aq8,aq72,aq0⟩
   rw [if_pos c7] at H
   have c7b0:=decide_eq_true c7
   clear c7
   replace H:=gd H
   obtain ⟨c8,H⟩:=H
   have c8b0:=decide_eq_true c8
   clear c8
   replace H:=gd H
   obtain ⟨c9,H⟩:=H
   have c9b0:=decide_eq_true c9
   clear c9
   replace H:=Option.bind_eq_some_iff.mp H
   obtain ⟨⟨t106,t107,t108⟩,A100,H⟩:=H
   replace H:(if 0 < (a1.size:Int) then ((slices_Index_byte_byte.f k1 t108 (bt a1 0)).bind fun t111=>(if x5_1.length < 17592186044416 then (impl_reach_cells.l0 k1 a1 (x5_1 ++ [t111]) l0_0 (l0_0.length:Int) (wrap64 (x12_1 + 1))) else (none))) else (none)) = some r:=H
   have A10:=am A100
   clear A100
   replace H:=gd H
   obtain ⟨c11,H⟩:=H
   have c11b0:=decide_eq_true c11
   have c11b1:decide (0 < a1.size) = true:=decide_eq_true o_m
   clear c11
   obtain ⟨t111,A13,H⟩:=bn H
   replace H:=gd H
   obtain ⟨c14,H⟩:=H
   have LMc14:=am c14
   clear c14
   obtain ⟨y112,hy_⟩:∃ y_:List Int,y_ = (x5_1 ++ [t111]):=⟨_,rfl⟩
   replace H:(impl_reach_cells.l0 k1 a1 y112 l0_0 (l0_0.length:Int) (wrap64 (x12_1 + 1))) = some r:=aq5
   have Ny112:=am hy_
   clear hy_
   have H':=am H
   clear H
   have p105:0 ≤ (x12_1:Int):=of_decide_eq_true aq4
   have q105:x12_1 < (l0_0.length:Int):=of_decide_eq_true aq4
   obtain ⟨ad105,e105,hx105_0⟩:=Kd.at_string HR0_0.out x12_1 p105 q105
   cases e105
   try replace hx105_0:=(HB.out.cell (World.block_lt_of_cell? w _ hx105_0)).trans hx105_0
   replace p105:=eq_true p105
   replace q105:=eq_true q105
   try go_wp2
   replace HO_5:=am (Kd.R_drew HO_5.out)
   replace BK101:=am (blk_drew BK101.out)
   replace HB:=am (below_drew1 HB.out)
   have p12:0 ≤ (0:Int):=o_m
   have q12:0 < a1.size:=(by have:(0:Int) < (a1.size:Int):=of_decide_eq_true aq4;omega)
   have hx12:∀ h:0 < a1.size,((a1[0]'h).toNat:Int) = bt a1 0:=bt_at a1 0
   clear p12
   have qi12:(0 < (a1.size:Int)) = True:=eq_true (of_decide_eq_true aq4)
   replace q12:=eq_true q12
   refine start_ (n:=10) (S:=fun w'=>True) (ds:=[]) (bm 10 0) k_r rfl rfl trivial (fun hHeld=>?_);refine with_tabW impl_reach_cells.tab5 impl_reach_cells.bits5 (fun HT_ HW_=>?_)
   generalize wr.drew = w15 at HO_5 BK101 HB hHeld ⊢
   refine py (i:=0) (N:=some 16) (bm 10 1) ?_
   refine py (i:=1) (N:=some 17) (bm 10 3) ?_
   refine py (i:=4) (N:=some 20) (bm 10 19) ?_
   refine tk1 (i:=5) (N:=some 21) (bm 10 51) hHeld ?_
   refine one_ (i:=2) (N:=some 18) (bm 10 55) rfl rfl (one_of HT_.out k_r) d_c (fun K hK=>?_)
   refine goes_ Tryz.func51 k_r rfl #[.string (rdOf ByteArray.empty l0_0 x12_1)] (by rfl) rfl rfl aq6 ?_
   with_reducible refine (impl_read.calls (rdOf ByteArray.empty l0_0 x12_1) t106 t107 t108 _ A10.out).mono ?_
   rintro e w16 ⟨v109,rfl,ho0,hb⟩
   refine ⟨_,rfl,?_⟩
   have HO110:=am (Kd.V_lower (Kd.V_mono (ok':=fun k_=>some k_ ≠ (u5:Value).ownBlock ∧ k_ ≠ gb101) ho0 (fun k_ hk_=>⟨(Kd.fresh' (Kd.R_lt aq72) k_ hk_),(Kd.freshB (g:=gb101) (o:=.cells #[.slice (some ad105) l0_0.length c0_0,.slice A0_1 l0_1.length c0_1,.slice A0_2 l0_2.length c0_2,.slice A0_3 l0_3.length c0_3] 59 (0,0)) aq1 k_ hk_)⟩)) (below_size aq0))
   replace HO_5:=am (Kd.R_below aq72 hb)
   replace BK101:=am (bb BK101 hb)
   replace HB:=am (below_step aq0 hb)
   (try clear hb)
   (try clear ho0)
   obtain ⟨Ao17,co17,eo17⟩:=Kd.V_slice HO110.out
   (first | subst eo17 | (injection eo17 with f1_ f2_ f3_;have f4_:=f1_.symm;have f5_:=f3_.symm;clear f1_ f2_ f3_;subst f4_;subst f5_))
   refine hK.out _ _ trivial (fun hHeld=>?_)
   clear hK K
   refine nm (some 18) ?_
   refine py (i:=3) (N:=some 19) (bm 10 63) ?_
   refine one_ (i:=6) (N:=some 22) (bm 10 127) rfl rfl (one_of HT_.out k_r) d_c (fun K hK=>?_)
   refine goes_ Tryz.func89 k_r rfl #[.slice Ao17 t108.length co17,.int .u8 (bt a1 0)] (by rfl) rfl rfl aq6 ?_
   with_reducible refine (slices_Index_byte_byte.calls k1 _ _ t108 (bt a1 0) t111 _ ?side1 ?side2 A13.out).mono ?_
   (case side1=>repeat (first | exact (Kd.V_reads' HO110.out).2.2 | (with_reducible refine Kd.C_alloc ?_ _) | (with_reducible refine Kd.C_drewN ?_ _) | (with_reducible refine Kd.C_drew ?_)))
   (case side2=>exact (Kd.V_reads' HO110.out).2.1)
   rintro e w' ⟨rfl,⟨nd,rfl⟩⟩
   refine ⟨_,rfl,?_⟩
   refine hK.out _ _ trivial (fun hHeld=>?_)
   clear hK K
   refine nm (some 22) ?_
   refine one_ (i:=7) (N:=some 23) (bm 10 255) rfl rfl (one_of HT_.out k_r) d_c (fun K hK=>?_)
   refine value_ (w1:=?_) (v:=?_) (by rfl) rfl ?_ ?_
   rotate_left 2
   ·go_simp
    constructor
    ·rfl
    ·rfl
   refine hK.out _ _ trivial (fun hHeld=>?_)
   clear hK K
   refine nm (some 23) ?_
   refine one_ (i:=8) (N:=some 24) (bm 10 511) rfl rfl (one_of HT_.out k_r) d_c (fun K hK=>?_)
   refine Kd.R_append_step (Kd.int .i64) (w0:=w) w.heap.size (by rfl) (.tmp 16) (.tmp 23) 40 3 (.int .i64 0) 8 rfl Tryz.underlying40 info3 rfl d_c o_m u5 x5_1 t111 [.int .i64 t111] (fun _=>True) (fun _=>False) rfl rfl ?aP (fun _ hk=>hk.elim) ?aF ?aO ?aB ?aS ?aL ?_
   (case aP=>exact rfl)
   (case aB=>exact aq0)
   (case aF=>exact aq89)
   (case aO=>exact aq72)
   (case aS=>exact aq80)
   (case aL=>have:=LMc14.out;omega)
   intro v113 w18 ho hb hg hat
   rw [← Ny112.out] at ho
   replace BK101:=am (bg BK101 hg (Kd.R_ne HO_5.out BK101.out d_c))
   replace HO110:=am (Kd.V_afterv (ok:=(fun k_=>k_ ≠ gb101)) (by (with_reducible repeat (first | apply Kd.V_alloc | apply Kd.V_drewN | apply Kd.V_drew));exact Kd.V_mono HO110.out (fun _ hk=>⟨hk.2,hk.1⟩)) hg hat)
   replace HB:=am (hb)
   have HO114:=am (ho)
   clear HO_5 ho hb hg hat
   refine hK.out _ _ trivial (fun hHeld=>?_)
   clear hK K
   refine nm (some 24) ?_
   refine py (i:=9) (N:=some 5) (bm 10 1023) ?_
   refine done_ (done_of HT_.out k_r) ?_
   try go_wp2
   go_roundg k1
   case measure=>have:=HK1.out;omega
   case rel=>exact ⟨(y112),(wrap64 (x12_1 + 1)),aq7,H',⟨aq70⟩,⟨by (with_reducible repeat (first | apply Kd.R_alloc | apply Kd.R_drewN | apply Kd.R_drew));exact HO114.out⟩,⟨aq1⟩,⟨aq0⟩⟩
def impl_tray_number.f (a0_0:Int) (a0_1:Int) (l0_2:List Int) (a1:Int) (a2:Int):Option (Int):=some (wrap64 ((wrap64 (a2 * a0_0)) + a1))
theorem impl_tray_number.calls (a0_0:Int) (a0_1:Int) (A0_2:Option Addr) (c0_2:Nat) (l0_2:List Int) (a1:Int) (a2:Int) (r:Int) (w:World) (hr0_2:Kd.C (Kd.int .u8) w A0_2 l0_2.length l0_2) (hc0_2:l0_2.length ≤ c0_2) (h:impl_tray_number.f a0_0 a0_1 l0_2 a1 a2 = some r) :
  Calls Tryz.prog 211 #[.agg #[.int .i64 a0_0,.int .i64 a0_1,.slice A0_2 l0_2.length c0_2],.int .i64 a1,.int .i64 a2] w fun e w'=>e = .returned (.int .i64 r) ∧ Below w.heap.size w w':=by
 have hu65:=Tryz.underlying65
 have HR0_2:=am hr0_2
 have HC0_2:=am hc0_2
 clear hr0_2 hc0_2
 have HB:=am (Below.refl w.heap.size w)
 have H:(some (wrap64 ((wrap64 (a2 * a0_0)) + a1))) = some r:=h
 clear h
 obtain rfl:=Option.some.inj H
 go_enter Tryz.func211,Tryz.ntmps211
 go_wp2_with (first | (refine bx 3 #[.int .i64 a0_0,.int .i64 a0_1,.slice A0_2 l0_2.length c0_2] 65 ?_;intro gb101 hg w4 hbox hb;have BK101:=am (hbox);have GW101:=am ((by rw [hg];exact (below_size aq2):w.heap.size ≤ gb101));have GE101:=GW101;replace HB:=am (below_step aq2 hb);clear hb hbox hg;obtain ⟨hcz5_0,hcz5_1,hcz5_2,hfz5_0,hfz5_1,hfz5_2⟩:=blk3_ BK101.out))
 go_ret
 exact ⟨aq8,aq0⟩
def slices_Reverse_int_int.l0:Nat → List Int → Int → Int → Option (List Int)
 | 0,_,_,_=>none
 | k + 1,x0,x2,x3=>if x2 < x3 then (if 0 ≤ x3 then (if x3 < (x0.length:Int) then (if 0 ≤ x2 then (if x2 < (x0.length:Int) then (slices_Reverse_int_int.l0 k ((x0.set (x2:Int).toNat (rd x0 x3)).set (x3:Int).toNat (rd x0 x2)) (wrap64 (x2 + 1)) (wrap64 (x3 - 1))) else (none)) else (none)) else (none)) else (none)) else (some x0)
def slices_Reverse_int_int.f (k:Nat) (l0:List Int):Option (List Int):=slices_Reverse_int_int.l0 k l0 0 (wrap64 ((l0.length:Int) - 1))
theorem slices_Reverse_int_int.mono_l:∀ k,(∀ y0 y1 y2,LeO (slices_Reverse_int_int.l0 k y0 y1 y2) (slices_Reverse_int_int.l0 (k + 1) y0 y1 y2))
 | 0=>fun _ _ _ r h=>by simp [slices_Reverse_int_int.l0] at h
 | k + 1=>by
  have ih0:=slices_Reverse_int_int.mono_l k
  ·intro y0 y1 y2
   unfold slices_Reverse_int_int.l0
   exact mo
theorem slices_Reverse_int_int.mono:∀ a0 k,LeO (slices_Reverse_int_int.f k a0) (slices_Reverse_int_int.f (k + 1) a0):=by
 intro a0 k
 have ih0:=slices_Reverse_int_int.mono_l k
 unfold slices_Reverse_int_int.f
 exact mo
def slices_Reverse_int_int.T3:Bool × List (List Nat × List Nat):=(true,[([],[]),([],[]),([],[]),([],[]),([],[]),([],[]),([4,5],[4,5]),([6],[6]),([],[]),([],[]),([8,9],[8,9]),([10],[10]),([0,1,0,1,4,5,6,7,11],[0,1]),([12,7,0,1,4,5,6,7,11],[7,12]),([2,3,0,1,2,3,4,5,6,7,8,9,10,11,12,13],[2,3]),([14,11,13,0,1,2,3,4,5,6,7,8,9,10,11,12,13],[11,14])])
def slices_Reverse_int_int.B3:List Nat:=[0,0,0,0,0,0,48,112,0,0,768,1792,4083,8179,16383,32767]
theorem slices_Reverse_int_int.tab3:rtab .any (opsOf Tryz.f212 3) = slices_Reverse_int_int.T3:=by kernel_rfl
theorem slices_Reverse_int_int.bits3:waitsOk slices_Reverse_int_int.T3.2 slices_Reverse_int_int.B3 = true:=by kernel_rfl
theorem slices_Reverse_int_int.calls (k:Nat) (P0_:Nat → Prop) (u9000_:Value) (l0:List Int) (r:List Int) (w0 w:World) (hB:Below w0.heap.size w0 w) (ho0:Kd.R (Kd.int .i64) 3 w w0.heap.size P0_ u9000_ l0) (h:slices_Reverse_int_int.f k l0 = some r) :
  Calls Tryz.prog 212 #[u9000_] w fun e w'=>e = .returned (.tuple #[]) ∧ Kd.R (Kd.int .i64) 3 w' w0.heap.size (fun k_=>(P0_ k_ ∨ w.heap.size ≤ k_)) u9000_ r ∧ Below w0.heap.size w0 w' ∧ Kept w w' (fun k_=>P0_ k_):=by
 have HO0:=am (show Kd.R (Kd.int .i64) 3 w w0.heap.size (fun k_=>(P0_ k_ ∨ w.heap.size ≤ k_)) u9000_ l0 from Kd.R_mono ho0 (fun k_ hk=>(.inl hk)))
 have HK:=am (Kept.refl w (fun k_=>P0_ k_))
 have HW0:=am hB.size
 have HB:=am hB
 clear hB
 have H:(slices_Reverse_int_int.l0 k l0 0 (wrap64 ((l0.length:Int) - 1))) = some r:=h
 clear h
 have H':=am H
 clear H
 obtain ⟨Ao2,co2,eo2⟩:=Kd.R_slice HO0.out
 subst eo2
 go_enter Tryz.func212,Tryz.ntmps212
 go_wp2
 go_loopg [2,3] k (fun kq v2 v3 w'=>∃ (x0_1:List Int) (x2_1:Int) (x3_1:Int),v2 = .int .i64 x2_1 ∧ v3 = .int .i64 x3_1 ∧ Aside0 (slices_Reverse_int_int.l0 kq x0_1 x2_1 x3_1 = some r) ∧ Aside0 (kq ≤ k) ∧ Aside0 (Kd.R (Kd.int .i64) 3 w' w0.heap.size (fun k_=>(P0_ k_ ∨ w.heap.size ≤ k_)) (.slice Ao2 l0.length co2) x0_1) ∧ Aside0 (Kept w w' (fun k_=>P0_ k_)) ∧ Aside0 (Below w0.heap.size w0 w'))
 case atStart=>exact ⟨(l0),(0),(wrap64 ((l0.length:Int) - 1)),aq7,aq7,H',⟨Nat.le_refl _⟩,⟨by (with_reducible repeat (first | apply Kd.R_alloc | apply Kd.R_drewN | apply Kd.R_drew));exact HO0.out⟩,⟨aq40⟩,⟨aq2⟩⟩
 case round =>
  clear H'
  try clear c2
  try clear p2
  obtain ⟨x0_1,x2_1,x3_1,rfl,rfl,HA,HK1,HO_0,HK,HB⟩:=hrel
  have hl0_1:=(Kd.R_reads' HO_0.out).1
  rw [hl0_1] at HO_0
  (try simp only [hl0_1])
  cases gk with
  | zero=>exact absurd HA.out (by simp [slices_Reverse_int_int.l0])
  | succ k1 =>
   have H:=HA.out
   clear HA
   simp only [slices_Reverse_int_int.l0] at H
   by_cases c3:x2_1 < x3_1
   rotate_left
   ·rw [if_neg c3] at H
    have c3b0:=decide_eq_false c3
    clear c3
    obtain rfl:=Option.some.inj H
    go_wp2
    first | go_end0 | ((try simp only [Exit.inBlock,Exit.then]);refine bodyPost_ret (results_none rfl _ _ _) rfl ?_)
    exact ⟨aq8,(by first | exact aq56 | (simp only [hl0_1];exact aq56)),aq2,aq40⟩
   rw [if_pos c3] at H
   have c3b0:=decide_eq_true c3
   clear c3
   replace H:=gd H
   obtain ⟨c4,H⟩:=H
   have c4b0:=decide_eq_true c4
   clear c4
   replace H:=gd H
   obtain ⟨c5,H⟩:=H
   have c5b0:=decide_eq_true c5
   clear c5
   replace H:=gd H
   obtain ⟨c6,H⟩:=H
   have c6b0:=decide_eq_true c6
   clear c6
   replace H:=gd H
   obtain ⟨c7,H⟩:=H
   have c7b0:=decide_eq_true c7
   clear c7
   obtain ⟨y103,hy_⟩:∃ y_:List Int,y_ = (x0_1.set (x2_1:Int).toNat (rd x0_1 x3_1)):=⟨_,rfl⟩
   replace H:(slices_Reverse_int_int.l0 k1 (y103.set (x3_1:Int).toNat (rd x0_1 x2_1)) (wrap64 (x2_1 + 1)) (wrap64 (x3_1 - 1))) = some r:=aq5
   have Ny103:=am hy_
   clear hy_
   obtain ⟨y104,hy_⟩:∃ y_:List Int,y_ = (y103.set (x3_1:Int).toNat (rd x0_1 x2_1)):=⟨_,rfl⟩
   replace H:(slices_Reverse_int_int.l0 k1 y104 (wrap64 (x2_1 + 1)) (wrap64 (x3_1 - 1))) = some r:=aq5
   have Ny104:=am hy_
   clear hy_
   have H':=am H
   clear H
   try go_wp2
   replace HO_0:=am (Kd.R_drew HO_0.out)
   replace HK:=am (Kept.drew HK.out)
   replace HB:=am (below_drew1 HB.out)
   have p101:0 ≤ (x3_1:Int):=of_decide_eq_true aq4
   have q101:x3_1 < (x0_1.length:Int):=of_decide_eq_true aq4
   obtain ⟨ad101,e101,hx101_0⟩:=Kd.at_int (Kd.R_reads' HO_0.out).2.2 x3_1 p101 q101
   cases e101
   replace p101:=eq_true p101
   replace q101:=eq_true q101
   have p102:0 ≤ (x2_1:Int):=of_decide_eq_true aq4
   have q102:x2_1 < (x0_1.length:Int):=of_decide_eq_true aq4
   obtain ⟨ad102,e102,hx102_0⟩:=Kd.at_int (Kd.R_reads' HO_0.out).2.2 x2_1 p102 q102
   obtain rfl:ad101 = ad102:=(by injection e102)
   replace p102:=eq_true p102
   replace q102:=eq_true q102
   have p8:0 ≤ (x2_1:Int):=of_decide_eq_true aq4
   have q8:(x2_1:Int) < ((x0_1.length:Int):Int):=of_decide_eq_true aq4
   obtain ⟨go8,co8,eo8,gb8,gl8,cl8,HG8⟩:=Kd.R_form HO_0.out o_m
   (first | cases eo8 | (injection eo8 with ea_ en_ ec_;(first | subst ea_ | (injection ea_ with ea_;subst ea_));subst ec_;clear en_))
   have GB8:=am gb8
   have GG8:=am HG8
   clear gb8 gl8 HG8
   have HMgo8:=am (show (P0_ go8 ∨ w.heap.size ≤ go8) from (HO_0.out.1 _ rfl))
   (first | simp only [add_plain] at hx101_0 | skip)
   (first | simp only [add_plain] at hx102_0 | skip)
   obtain ⟨hx8_0,hf8_0⟩:=Kd.R_celln 0 HO_0.out (x2_1:Int) p8 q8
   replace p8:=eq_true p8
   replace q8:=eq_true q8
   have HP11:=Kd.R_putn HO_0.out (x2_1:Int) (rd x0_1 x3_1)
   rw [← Ny103.out] at HP11
   have HQ11:=am HP11
   clear HP11
   have p9:0 ≤ (x3_1:Int):=of_decide_eq_true aq4
   have q9:(x3_1:Int) < ((x0_1.length:Int):Int):=of_decide_eq_true aq4
   obtain ⟨hx9_0,hf9_0⟩:=Kd.R_celln 0 HQ11.out (x3_1:Int) p9 q9
   replace p9:=eq_true p9
   replace q9:=eq_true q9
   have HP12:=Kd.R_putn HQ11.out (x3_1:Int) (rd x0_1 x2_1)
   rw [← Ny104.out] at HP12
   have HQ12:=am HP12
   clear HP12
   refine start_ (n:=16) (S:=fun w'=>w'.cell? ⟨go8,(x3_1).toNat,none⟩ = some (.int .i64 (rd x0_1 x3_1)) ∧ w'.cell? ⟨go8,(x2_1).toNat,none⟩ = some (.int .i64 (rd x0_1 x2_1))) (ds:=[13,15]) (bm 16 0) k_r rfl rfl ⟨hx101_0,hx102_0⟩ (fun hHeld=>?_);refine with_tabW slices_Reverse_int_int.tab3 slices_Reverse_int_int.bits3 (fun HT_ HW_=>?_)
   generalize wr.drew = w10 at HO_0 HK HB GG8 HQ11 HQ12 hf8_0 hf9_0 hx101_0 hx102_0 hx8_0 hx9_0 hHeld ⊢
   refine py (i:=0) (N:=some 14) (bm 16 1) ?_
   refine py (i:=1) (N:=some 15) (bm 16 3) ?_
   refine py (i:=2) (N:=some 16) (bm 16 7) ?_
   refine py (i:=3) (N:=some 17) (bm 16 15) ?_
   refine py (i:=4) (N:=some 18) (bm 16 31) ?_
   refine py (i:=5) (N:=some 19) (bm 16 63) ?_
   refine py (i:=6) (N:=some 20) (bm 16 127) ?_
   refine py (i:=8) (N:=some 22) (bm 16 383) ?_
   refine py (i:=9) (N:=some 23) (bm 16 895) ?_
   refine py (i:=10) (N:=some 24) (bm 16 1919) ?_
   refine tk2 (i:=7) (N:=some 21) (bm 16 2047) hHeld ?_
   refine tk2 (i:=11) (N:=some 25) (bm 16 4095) hHeld ?_
   refine py (i:=12) (N:=some 26) (bm 16 8191) ?_
   refine last_ (i:=13) (N:=none) (bm 16 16383) rfl rfl (one_of HT_.out k_r) d_c (fun K hK=>?_)
   refine skip_ (w1:=?_) (by rfl) rfl ?_ ?_
   rotate_left
   ·go_simp
    rfl
   refine hK.out _ _ ?_
   clear hK K
   refine py (i:=14) (N:=some 27) (bm 16 32767) ?_
   refine last_ (i:=15) (N:=none) (bm 16 65535) rfl rfl (one_of HT_.out k_r) d_c (fun K hK=>?_)
   refine skip_ (w1:=?_) (by rfl) rfl ?_ ?_
   rotate_left
   ·go_simp
    rfl
   refine hK.out _ _ ?_
   clear hK K
   refine done_ (done_of HT_.out k_r) ?_
   try go_wp2
   (try simp only [← hl0_1])
   go_roundg k1
   case measure=>have:=HK1.out;omega
   case rel=>exact ⟨(y104),(wrap64 (x2_1 + 1)),(wrap64 (x3_1 - 1)),aq7,aq7,H',⟨aq70⟩,⟨by (try simp only [hl0_1]);(with_reducible repeat (first | apply Kd.R_alloc | apply Kd.R_drewN | apply Kd.R_drew));exact HQ12.out⟩,⟨by repeat (first | (with_reducible first | exact HK.out | apply Kept.alloc | apply Kept.drewN | apply Kept.drew | refine Kept.setCell ?_ HMgo8.out _ | refine Kept.setCell ?_ HMgo8.out _) | exact HK.out)⟩,⟨by repeat (first | (with_reducible first | exact HB.out | apply below_alloc | apply pw_below_drewN | apply below_drew1 | refine below_set ?_ GB8.out | refine below_set ?_ GB8.out) | exact HB.out)⟩⟩
mutual
def impl_tray_lines.j0:Nat → Int → List (List Int) → Int → Int → Bool → Int → Int → List Int → Option ((List (List Int)))
 | 0,_,_,_,_,_,_,_,_=>none
 | k + 1,x1,x5,x6,x7,x21,x102000,x102001,x102002=>if x21 = true then (impl_tray_lines.j1 k x1 x5 x102000 x102001 x102000 x102001 x102002) else (impl_tray_lines.j1 k x1 x5 x6 x7 x102000 x102001 x102002)
def impl_tray_lines.j1:Nat → Int → List (List Int) → Int → Int → Int → Int → List Int → Option ((List (List Int)))
 | 0,_,_,_,_,_,_,_=>none
 | k + 1,x1,x5,x6,x7,x102000,x102001,x102002=>impl_tray_lines.l0 k x1 x5 x7 x6 0 x102000 x102001 x102002
def impl_tray_lines.l0:Nat → Int → List (List Int) → Int → Int → Int → Int → Int → List Int → Option ((List (List Int)))
 | 0,_,_,_,_,_,_,_,_=>none
 | k + 1,x1,x5,x7,x26,x27,x102000,x102001,x102002=>if x27 < x26 then (impl_tray_lines.l1 k x1 x5 x7 x27 (([]:List Int)) x26 x27 x7 0 x102000 x102001 x102002) else (some x5)
def impl_tray_lines.l1:Nat → Int → List (List Int) → Int → Int → List Int → Int → Int → Int → Int → Int → Int → List Int → Option ((List (List Int)))
 | 0,_,_,_,_,_,_,_,_,_,_,_,_=>none
 | k + 1,x1,x5,x7,x8,x9,x26,x27,x31,x32,x102000,x102001,x102002=>if x32 < x31 then (if x1 = 117 then (impl_tray_lines.j4 k x1 x5 x7 x8 x9 x32 x26 x27 x31 x32 true x102000 x102001 x102002) else (impl_tray_lines.j4 k x1 x5 x7 x8 x9 x32 x26 x27 x31 x32 (x1 == 100) x102000 x102001 x102002)) else (if x1 = 114 then ((slices_Reverse_int_int.f k x9).bind fun t108=>(if x5.length < 5864062014805 then (impl_tray_lines.l0 k x1 (x5 ++ [t108]) x7 x26 (wrap64 (x27 + 1)) x102000 x102001 x102002) else (none))) else (if x1 = 100 then ((slices_Reverse_int_int.f k x9).bind fun t112=>(if x5.length < 5864062014805 then (impl_tray_lines.l0 k x1 (x5 ++ [t112]) x7 x26 (wrap64 (x27 + 1)) x102000 x102001 x102002) else (none))) else (if x5.length < 5864062014805 then (impl_tray_lines.l0 k x1 (x5 ++ [x9]) x7 x26 (wrap64 (x27 + 1)) x102000 x102001 x102002) else (none))))
def impl_tray_lines.j4:Nat → Int → List (List Int) → Int → Int → List Int → Int → Int → Int → Int → Int → Bool → Int → Int → List Int → Option ((List (List Int)))
 | 0,_,_,_,_,_,_,_,_,_,_,_,_,_,_=>none
 | k + 1,x1,x5,x7,x8,x9,x10,x26,x27,x31,x32,x40,x102000,x102001,x102002=>if x40 = true then ((impl_tray_number.f x102000 x102001 x102002 x8 x10).bind fun t119=>(if x9.length < 17592186044416 then (impl_tray_lines.l1 k x1 x5 x7 x8 (x9 ++ [t119]) x26 x27 x31 (wrap64 (x32 + 1)) x102000 x102001 x102002) else (none))) else ((impl_tray_number.f x102000 x102001 x102002 x10 x8).bind fun t123=>(if x9.length < 17592186044416 then (impl_tray_lines.l1 k x1 x5 x7 x8 (x9 ++ [t123]) x26 x27 x31 (wrap64 (x32 + 1)) x102000 x102001 x102002) else (none)))
end
def impl_tray_lines.f (k:Nat) (a0_0:Int) (a0_1:Int) (l0_2:List Int) (a1:Int):Option ((List (List Int))):=(some (([]:List (List Int)):List (List Int))).bind fun y102=>(if a1 = 117 then (impl_tray_lines.j0 k a1 y102 a0_1 a0_0 true a0_0 a0_1 l0_2) else (impl_tray_lines.j0 k a1 y102 a0_1 a0_0 (a1 == 100) a0_0 a0_1 l0_2))
theorem impl_tray_lines.mono_l:∀ k,(∀ y0 y1 y2 y3 y4 y5 y6 y7,LeO (impl_tray_lines.j0 k y0 y1 y2 y3 y4 y5 y6 y7) (impl_tray_lines.j0 (k + 1) y0 y1 y2 y3 y4 y5 y6 y7)) ∧ (∀ y0 y1 y2 y3 y4 y5 y6,LeO (impl_tray_lines.j1 k y0 y1 y2 y3 y4 y5 y6) (impl_tray_lines.j1 (k + 1) y0 y1 y2 y3 y4 y5 y6)) ∧ (∀ y0 y1 y2 y3 y4 y5 y6 y7,LeO (impl_tray_lines.l0 k y0 y1 y2 y3 y4 y5 y6 y7) (impl_tray_lines.l0 (k + 1) y0 y1 y2 y3 y4 y5 y6 y7)) ∧ (∀ y0 y1 y2 y3 y4 y5 y6 y7 y8 y9 y10 y11,LeO (impl_tray_lines.l1 k y0 y1 y2 y3 y4 y5 y6 y7 y8 y9 y10 y11) (impl_tray_lines.l1 (k + 1) y0 y1 y2 y3 y4 y5 y6 y7 y8 y9 y10 y11)) ∧ (∀ y0 y1 y2 y3 y4 y5 y6 y7 y8 y9 y10 y11 y12 y13,LeO (impl_tray_lines.j4 k y0 y1 y2 y3 y4 y5 y6 y7 y8 y9 y10 y11 y12 y13) (impl_tray_lines.j4 (k + 1) y0 y1 y2 y3 y4 y5 y6 y7 y8 y9 y10 y11 y12 y13))
 | 0=>⟨fun _ _ _ _ _ _ _ _ r h=>by simp [impl_tray_lines.j0] at h,fun _ _ _ _ _ _ _ r h=>by simp [impl_tray_lines.j1] at h,fun _ _ _ _ _ _ _ _ r h=>by simp [impl_tray_lines.l0] at h,fun _ _ _ _ _ _ _ _ _ _ _ _ r h=>by simp [impl_tray_lines.l1] at h,fun _ _ _ _ _ _ _ _ _ _ _ _ _ _ r h=>by simp [impl_tray_lines.j4] at h⟩
 | k + 1=>by
  obtain ⟨ih0,ih1,ih2,ih3,ih4⟩:=impl_tray_lines.mono_l k
  refine ⟨?_,?_,?_,?_,?_⟩
  ·intro y0 y1 y2 y3 y4 y5 y6 y7
   unfold impl_tray_lines.j0
   have im0:=@slices_Reverse_int_int.mono;exact mo
  ·intro y0 y1 y2 y3 y4 y5 y6
   unfold impl_tray_lines.j1
   have im0:=@slices_Reverse_int_int.mono;exact mo
  ·intro y0 y1 y2 y3 y4 y5 y6 y7
   unfold impl_tray_lines.l0
   have im0:=@slices_Reverse_int_int.mono;exact mo
  ·intro y0 y1 y2 y3 y4 y5 y6 y7 y8 y9 y10 y11
   unfold impl_tray_lines.l1
   have im0:=@slices_Reverse_int_int.mono;exact mo
  ·intro y0 y1 y2 y3 y4 y5 y6 y7 y8 y9 y10 y11 y12 y13
   unfold impl_tray_lines.j4
   have im0:=@slices_Reverse_int_int.mono;exact mo
theorem impl_tray_lines.mono:∀ a0 a1 a2 a3 k,LeO (impl_tray_lines.f k a0 a1 a2 a3) (impl_tray_lines.f (k + 1) a0 a1 a2 a3):=by
 intro a0 a1 a2 a3 k
 obtain ⟨ih0,ih1,ih2,ih3,ih4⟩:=impl_tray_lines.mono_l k
 unfold impl_tray_lines.f
 have im0:=@slices_Reverse_int_int.mono;exact mo
theorem impl_tray_lines.calls (k:Nat) (a0_0:Int) (a0_1:Int) (A0_2:Option Addr) (c0_2:Nat) (l0_2:List Int) (a1:Int) (r:List (List Int)) (w:World) (hr0_2:Kd.C (Kd.int .u8) w A0_2 l0_2.length l0_2) (hc0_2:l0_2.length ≤ c0_2) (h:impl_tray_lines.f k a0_0 a0_1 l0_2 a1 = some r) :
  Calls Tryz.prog 197 #[.agg #[.int .i64 a0_0,.int .i64 a0_1,.slice A0_2 l0_2.length c0_2],.int .u8 a1] w fun e w'=>∃ v0_:Value,e = .returned (v0_) ∧ Kd.S (Kd.slice 3 (Kd.int .i64)) 40 w' w.heap.size (fun _=>True) v0_ r ∧ Below w.heap.size w w':=by
 have hu65:=Tryz.underlying65
 have HR0_2:=am hr0_2
 have HC0_2:=am hc0_2
 clear hr0_2 hc0_2
 have HB:=am (Below.refl w.heap.size w)
 have H:((some (([]:List (List Int)):List (List Int))).bind fun y102=>(if a1 = 117 then (impl_tray_lines.j0 k a1 y102 a0_1 a0_0 true a0_0 a0_1 l0_2) else (impl_tray_lines.j0 k a1 y102 a0_1 a0_0 (a1 == 100) a0_0 a0_1 l0_2))) = some r:=h
 clear h
 obtain ⟨y102,hy_⟩:∃ y_:List (List Int),y_ = (([]:List (List Int))):=⟨_,rfl⟩
 replace H:(if a1 = 117 then (impl_tray_lines.j0 k a1 y102 a0_1 a0_0 true a0_0 a0_1 l0_2) else (impl_tray_lines.j0 k a1 y102 a0_1 a0_0 (a1 == 100) a0_0 a0_1 l0_2)) = some r:=aq5
 have Ny102:=am hy_
 clear hy_
 have HC3:=am H
 clear H
 go_enter Tryz.func197,Tryz.ntmps197
 go_upto_region 3 with (first | (refine bx 2 #[.int .i64 a0_0,.int .i64 a0_1,.slice A0_2 l0_2.length c0_2] 65 ?_;intro gb101 hg w4 hbox hb;have BK101:=am (hbox);have GW101:=am ((by rw [hg];exact (below_size aq2):w.heap.size ≤ gb101));have GE101:=GW101;replace HB:=am (below_step aq2 hb);clear hb hbox hg) | ((with_reducible refine gate_dst (N:=11) rfl ?_);refine Kd.S_lit (Kd.slice 3 (Kd.int .i64)) _ 40 ?hg (N:=11) ?hd (xs:=([]:List (List Int))) (inner:=[]) (ok:=fun _=>True) (okp:=fun _=>True) ?hr ?hp (fun _ hk=>hk) trivial (Below.refl _ _) (Nat.le_refl _) (by simp) ?_;(case hd=>rfl);(case hg=>rfl);(case hr=>exact aq13);(case hp=>exact (Reps.none _ _));intro v103 w5 ho6 hb hg_ hnew_;clear hg_ hnew_;(first | rw [← Ny102.out] at ho6 | (simp only [Int.reduceToNat] at ho6;rw [← Ny102.out] at ho6));have HO104:=am (Kd.S_lower ho6 (below_size aq0));replace BK101:=am (bb BK101 hb);replace HB:=am (below_step aq0 hb);clear hb ho6;obtain ⟨hcz7_0,hcz7_1,hcz7_2,hfz7_0,hfz7_1,hfz7_2⟩:=blk3_ BK101.out))
 repeat (go_quiet (first | (refine bx 2 #[.int .i64 a0_0,.int .i64 a0_1,.slice A0_2 l0_2.length c0_2] 65 ?_;intro gb101 hg w4 hbox hb;have BK101:=am (hbox);have GW101:=am ((by rw [hg];exact (below_size aq2):w.heap.size ≤ gb101));have GE101:=GW101;replace HB:=am (below_step aq2 hb);clear hb hbox hg) | ((with_reducible refine gate_dst (N:=11) rfl ?_);refine Kd.S_lit (Kd.slice 3 (Kd.int .i64)) _ 40 ?hg (N:=11) ?hd (xs:=([]:List (List Int))) (inner:=[]) (ok:=fun _=>True) (okp:=fun _=>True) ?hr ?hp (fun _ hk=>hk) trivial (Below.refl _ _) (Nat.le_refl _) (by simp) ?_;(case hd=>rfl);(case hg=>rfl);(case hr=>exact aq13);(case hp=>exact (Reps.none _ _));intro v103 w5 ho6 hb hg_ hnew_;clear hg_ hnew_;(first | rw [← Ny102.out] at ho6 | (simp only [Int.reduceToNat] at ho6;rw [← Ny102.out] at ho6));have HO104:=am (Kd.S_lower ho6 (below_size aq0));replace BK101:=am (bb BK101 hb);replace HB:=am (below_step aq0 hb);clear hb ho6;obtain ⟨hcz7_0,hcz7_1,hcz7_2,hfz7_0,hfz7_1,hfz7_2⟩:=blk3_ BK101.out));go_upto_region 3 with (first | (refine bx 2 #[.int .i64 a0_0,.int .i64 a0_1,.slice A0_2 l0_2.length c0_2] 65 ?_;intro gb101 hg w4 hbox hb;have BK101:=am (hbox);have GW101:=am ((by rw [hg];exact (below_size aq2):w.heap.size ≤ gb101));have GE101:=GW101;replace HB:=am (below_step aq2 hb);clear hb hbox hg) | ((with_reducible refine gate_dst (N:=11) rfl ?_);refine Kd.S_lit (Kd.slice 3 (Kd.int .i64)) _ 40 ?hg (N:=11) ?hd (xs:=([]:List (List Int))) (inner:=[]) (ok:=fun _=>True) (okp:=fun _=>True) ?hr ?hp (fun _ hk=>hk) trivial (Below.refl _ _) (Nat.le_refl _) (by simp) ?_;(case hd=>rfl);(case hg=>rfl);(case hr=>exact aq13);(case hp=>exact (Reps.none _ _));intro v103 w5 ho6 hb hg_ hnew_;clear hg_ hnew_;(first | rw [← Ny102.out] at ho6 | (simp only [Int.reduceToNat] at ho6;rw [← Ny102.out] at ho6));have HO104:=am (Kd.S_lower ho6 (below_size aq0));replace BK101:=am (bb BK101 hb);replace HB:=am (below_step aq0 hb);clear hb ho6;obtain ⟨hcz7_0,hcz7_1,hcz7_2,hfz7_0,hfz7_1,hfz7_2⟩:=blk3_ BK101.out)))
 (try simp only [Act.put,List.setIfInBounds_toArray,List.set_cons_zero,List.set_cons_succ])
 go_cut [21] (fun v21 wc=>∃ (kq:Nat) (x21_2:Bool),v21 = .bool x21_2 ∧ Aside0 (impl_tray_lines.j0 kq a1 y102 a0_1 a0_0 x21_2 a0_0 a0_1 l0_2 = some r) ∧ Aside0 (kq ≤ k) ∧ Aside0 (Kd.S (Kd.slice 3 (Kd.int .i64)) 40 wc w.heap.size (fun _=>True) v103 y102) ∧ Aside0 (wc.heap[gb101]? = some (.cells #[.int .i64 a0_0,.int .i64 a0_1,(.slice A0_2 l0_2.length c0_2)] 65 (0,0))) ∧ Aside0 (Below w.heap.size w wc))
 case first =>
  have H:=HC3.out
  clear HC3
  by_cases c8:a1 = 117
  rotate_left
  ·rw [if_neg c8] at H
   have c8b0:=beq_eq_false_iff_ne.mpr c8
   have c8b1:=bne_iff_ne.mpr c8
   (first | rw [c8b0] | (simp only [i64_w,i32_w];rw [c8b0]) | skip)
   have H':=am H
   clear H
   go_wp2
   repeat (go_quiet (fail);try go_wp2)
   go_meet
   case rel=>exact ⟨_,((a1 == 100)),aq7,H',⟨aq110⟩,⟨aq71⟩,⟨aq1⟩,⟨aq0⟩⟩
  rw [if_pos c8] at H
  have c8b0:=beq_iff_eq.mpr c8
  have c8b1:=bne_eq_false_iff_eq.mpr c8
  clear c8
  (first | rw [c8b0] | (simp only [i64_w,i32_w];rw [c8b0]) | skip)
  have H':=am H
  clear H
  go_wp2
  repeat (go_quiet (fail);try go_wp2)
  go_meet
  case rel=>exact ⟨_,(true),aq7,H',⟨aq110⟩,⟨aq71⟩,⟨aq1⟩,⟨aq0⟩⟩
 case rest =>
  clear HC3
  try clear c1
  try clear p2
  try clear c8
  try clear c8b0
  try clear c8b1
  try clear hcz7_0
  try clear hcz7_1
  try clear hcz7_2
  try clear hfz7_0
  try clear hfz7_1
  try clear hfz7_2
  obtain ⟨kq,x21_2,rfl,HA,HJ2,HO_5,BK101,HB⟩:=hcut
  cases kq with
  | zero=>exact absurd HA.out (by simp [impl_tray_lines.j0])
  | succ kj2 =>
   have H:=HA.out
   clear HA
   simp only [impl_tray_lines.j0] at H
   have HC9:=am H
   clear H
   go_upto_if 21 with (fail)
   repeat (go_quiet (fail);go_upto_if 21 with (fail))
   go_cut [6,7] (fun v6 v7 wc=>∃ (kq:Nat) (x6_8:Int) (x7_8:Int),v6 = .int .i64 x6_8 ∧ v7 = .int .i64 x7_8 ∧ Aside0 (impl_tray_lines.j1 kq a1 y102 x6_8 x7_8 a0_0 a0_1 l0_2 = some r) ∧ Aside0 (kq ≤ kj2) ∧ Aside0 (Kd.S (Kd.slice 3 (Kd.int .i64)) 40 wc w.heap.size (fun _=>True) v103 y102) ∧ Aside0 (wc.heap[gb101]? = some (.cells #[.int .i64 a0_0,.int .i64 a0_1,(.slice A0_2 l0_2.length c0_2)] 65 (0,0))) ∧ Aside0 (Below w.heap.size w wc))
   case first =>
    have H:=HC9.out
    clear HC9
    by_cases c10:x21_2 = true
    rotate_left
    ·replace c10:=Bool.eq_false_iff.mpr c10
     subst c10
     rw [if_neg Bool.false_ne_true] at H
     have H':=am H
     clear H
     go_wp2
     repeat (go_quiet (fail);try go_wp2)
     go_meet
     case rel=>exact ⟨_,(a0_1),(a0_0),aq7,aq7,H',⟨by have:=HJ2.out;first | omega | exact Nat.le_refl _⟩,⟨aq28⟩,⟨aq1⟩,⟨aq0⟩⟩
    subst c10
    rw [if_pos rfl] at H
    have H':=am H
    clear H
    obtain ⟨hcz11_0,hcz11_1,hcz11_2,hfz11_0,hfz11_1,hfz11_2⟩:=blk3_ BK101.out
    go_wp2
    repeat (go_quiet (fail);try go_wp2)
    go_meet
    case rel=>exact ⟨_,(a0_0),(a0_1),aq7,aq7,H',⟨by have:=HJ2.out;first | omega | exact Nat.le_refl _⟩,⟨aq28⟩,⟨aq1⟩,⟨aq0⟩⟩
   case rest =>
    clear HC9
    try clear c1
    try clear p2
    try clear c8
    try clear c8b0
    try clear c8b1
    try clear c10
    try clear hcz11_0
    try clear hcz11_1
    try clear hcz11_2
    try clear hcz7_0
    try clear hcz7_1
    try clear hcz7_2
    try clear hfz11_0
    try clear hfz11_1
    try clear hfz11_2
    try clear hfz7_0
    try clear hfz7_1
    try clear hfz7_2
    try clear p2
    obtain ⟨kq,x6_8,x7_8,rfl,rfl,HA,HJ8,HO_5,BK101,HB⟩:=hcut
    cases kq with
    | zero=>exact absurd HA.out (by simp [impl_tray_lines.j1])
    | succ kj8 =>
     have H:=HA.out
     clear HA
     simp only [impl_tray_lines.j1] at H
     have H':=am H
     clear H
     go_wp2
     repeat (go_quiet (fail);try go_wp2)
     go_loopg [5,27] kj8 (fun kq v5 v27 w'=>∃ (x5_3:List (List Int)) (x27_3:Int),v27 = .int .i64 x27_3 ∧ Aside0 (impl_tray_lines.l0 kq a1 x5_3 x7_8 x6_8 x27_3 a0_0 a0_1 l0_2 = some r) ∧ Aside0 (kq ≤ kj8) ∧ Aside0 (Kd.S (Kd.slice 3 (Kd.int .i64)) 40 w' w.heap.size (fun _=>True) v5 x5_3) ∧ Aside0 (w'.heap[gb101]? = some (.cells #[.int .i64 a0_0,.int .i64 a0_1,(.slice A0_2 l0_2.length c0_2)] 65 (0,0))) ∧ Aside0 (Below w.heap.size w w'))
     case atStart=>exact ⟨(y102),(0),aq7,H',⟨Nat.le_refl _⟩,⟨aq28⟩,⟨aq1⟩,⟨aq0⟩⟩
     case round =>
      clear H'
      try clear c1
      try clear p2
      try clear c8
      try clear c8b0
      try clear c8b1
      try clear c10
      try clear hcz11_0
      try clear hcz11_1
      try clear hcz11_2
      try clear hcz7_0
      try clear hcz7_1
      try clear hcz7_2
      try clear hfz11_0
      try clear hfz11_1
      try clear hfz11_2
      try clear hfz7_0
      try clear hfz7_1
      try clear hfz7_2
      try clear p2
      obtain ⟨x5_3,x27_3,rfl,HA,HK3,HO_5,BK101,HB⟩:=hrel
      cases gk with
      | zero=>exact absurd HA.out (by simp [impl_tray_lines.l0])
      | succ k3 =>
       have H:=HA.out
       clear HA
       simp only [impl_tray_lines.l0] at H
       by_cases c12:x27_3 < x6_8
       rotate_left
       ·rw [if_neg c12] at H
        have c12b0:=decide_eq_false c12
        clear c12
        obtain rfl:=Option.some.inj H
        go_wp2
        repeat (go_quiet (fail);try go_wp2)
        go_ret
        exact ⟨_,aq8,aq28,aq0⟩
       rw [if_pos c12] at H
       have c12b0:=decide_eq_true c12
       clear c12
       obtain ⟨y105,hy_⟩:∃ y_:List Int,y_ = (([]:List Int)):=⟨_,rfl⟩
       replace H:(impl_tray_lines.l1 k3 a1 x5_3 x7_8 x27_3 y105 x6_8 x27_3 x7_8 0 a0_0 a0_1 l0_2) = some r:=aq5
       have Ny105:=am hy_
       clear hy_
       have H':=am H
       clear H
       go_wp2_with (first | ((with_reducible refine gate_dst (N:=30) rfl ?_);refine Kd.R_lit (Kd.int .i64) _ 3 ?hg (N:=30) ?hd (xs:=([]:List Int)) (inner:=[]) (ok:=fun _=>True) (okp:=fun _=>True) ?hr ?hp (fun _ hk=>hk) trivial (Below.refl _ _) (Nat.le_refl _) (by simp) ?_;(case hd=>rfl);(case hg=>rfl);(case hr=>exact aq13);(case hp=>exact (Reps.none _ _));intro v106 w13 ho14 hb hg_ hnew_;clear hg_ hnew_;(first | rw [← Ny105.out] at ho14 | (simp only [Int.reduceToNat] at ho14;rw [← Ny105.out] at ho14));replace HO_5:=am (Kd.S_elder' aq28 (Kd.R_base ho14) hb);have HO107:=am (Kd.R_lower ho14 (below_size aq0));replace BK101:=am (bb BK101 hb);replace HB:=am (below_step aq0 hb);clear hb ho14))
       repeat (go_quiet (fail);try go_wp2_with (first | ((with_reducible refine gate_dst (N:=30) rfl ?_);refine Kd.R_lit (Kd.int .i64) _ 3 ?hg (N:=30) ?hd (xs:=([]:List Int)) (inner:=[]) (ok:=fun _=>True) (okp:=fun _=>True) ?hr ?hp (fun _ hk=>hk) trivial (Below.refl _ _) (Nat.le_refl _) (by simp) ?_;(case hd=>rfl);(case hg=>rfl);(case hr=>exact aq13);(case hp=>exact (Reps.none _ _));intro v106 w13 ho14 hb hg_ hnew_;clear hg_ hnew_;(first | rw [← Ny105.out] at ho14 | (simp only [Int.reduceToNat] at ho14;rw [← Ny105.out] at ho14));replace HO_5:=am (Kd.S_elder' aq28 (Kd.R_base ho14) hb);have HO107:=am (Kd.R_lower ho14 (below_size aq0));replace BK101:=am (bb BK101 hb);replace HB:=am (below_step aq0 hb);clear hb ho14)))
       go_loopg [9,32] k3 (fun kq v9 v32 w'=>∃ (x9_4:List Int) (x32_4:Int),v32 = .int .i64 x32_4 ∧ Aside0 (impl_tray_lines.l1 kq a1 x5_3 x7_8 x27_3 x9_4 x6_8 x27_3 x7_8 x32_4 a0_0 a0_1 l0_2 = some r) ∧ Aside0 (kq ≤ k3) ∧ Aside0 (Kd.S (Kd.slice 3 (Kd.int .i64)) 40 w' w.heap.size (fun k_=>some k_ ≠ (v9:Value).ownBlock) u5 x5_3) ∧ Aside0 (Kd.R (Kd.int .i64) 3 w' w.heap.size (fun _=>True) v9 x9_4) ∧ Aside0 (w'.heap[gb101]? = some (.cells #[.int .i64 a0_0,.int .i64 a0_1,(.slice A0_2 l0_2.length c0_2)] 65 (0,0))) ∧ Aside0 (Below w.heap.size w w'))
       case atStart=>exact ⟨(y105),(0),aq7,H',⟨Nat.le_refl _⟩,⟨aq58⟩,⟨aq29⟩,⟨aq1⟩,⟨aq0⟩⟩
       case round =>
        clear H'
        try clear c1
        try clear p2
        try clear c8
        try clear c8b0
        try clear c8b1
        try clear c10
        try clear c12
        try clear c12b0
        try clear hcz11_0
        try clear hcz11_1
        try clear hcz11_2
        try clear hcz7_0
        try clear hcz7_1
        try clear hcz7_2
        try clear hfz11_0
        try clear hfz11_1
        try clear hfz11_2
        try clear hfz7_0
        try clear hfz7_1
        try clear hfz7_2
        try clear p2
        obtain ⟨x9_4,x32_4,rfl,HA,HK4,HO_5,HO_9,BK101,HB⟩:=hrel
        cases gk with
        | zero=>exact absurd HA.out (by simp [impl_tray_lines.l1])
        | succ k4 =>
         have H:=HA.out
         clear HA
         simp only [impl_tray_lines.l1] at H
         by_cases c15:x32_4 < x7_8
         rotate_left
         ·rw [if_neg c15] at H
          have c15b0:=decide_eq_false c15
          clear c15
          by_cases c29:a1 = 114
          ·rw [if_pos c29] at H
           have c29b0:=beq_iff_eq.mpr c29
           have c29b1:=bne_eq_false_iff_eq.mpr c29
           clear c29
           obtain ⟨t108,A30,H⟩:=bn H
           replace H:=gd H
           obtain ⟨c31,H⟩:=H
           have LMc31:=am c31
           clear c31
           obtain ⟨y109,hy_⟩:∃ y_:List (List Int),y_ = (x5_3 ++ [t108]):=⟨_,rfl⟩
           replace H:(impl_tray_lines.l0 k4 a1 y109 x7_8 x6_8 (wrap64 (x27_3 + 1)) a0_0 a0_1 l0_2) = some r:=aq5
           have Ny109:=am hy_
           clear hy_
           have H':=am H
           clear H
           obtain ⟨Ao32,co32,eo32⟩:=Kd.R_slice HO_9.out
           subst eo32
           go_wp2_with (first | (go_at_call 212;(with_reducible refine (slices_Reverse_int_int.calls k4 (fun k_=>some k_ = (.slice Ao32 x9_4.length co32:Value).ownBlock) (.slice Ao32 x9_4.length co32) x9_4 t108 w _ ?side1 ?side2 A30.out).mono ?_);(case side1=>exact aq0);(case side2=>exact Kd.R_tight rfl HO_9.out);rintro e w33 ⟨rfl,hy0,hb,hkp⟩;replace HO_5:=am (Kd.S_mono (ok':=fun k_=>some k_ ≠ (.slice Ao32 x9_4.length co32:Value).ownBlock) (Kd.S_keptB (HO_5.out) hkp (fun k_ hk_ hs_=>(hk_) hs_)) (fun k_ hk_=>hk_.1));replace BK101:=am (blk_kept aq1 hkp (fun hs_=>(fun e_=>(Kd.R_ne HO_9.out BK101.out d_c) e_) hs_));replace HO_9:=am (Kd.R_reok rfl hy0 (fun k_ e_=>HO_9.out.1 k_ e_));replace HB:=am (hb);(try clear hb);(try clear hkp);(try clear hy0)) | ((with_reducible refine gate_builtin (b:=.append) (xs:=#[.tmp 64,.tmp 66]) rfl ?_);at_builtin;refine Kd.S_append (Kd.slice 3 (Kd.int .i64)) (w0:=w) w.heap.size rfl (.tmp 64) (.tmp 66) 57 40 (.slice none 0 0) 24 rfl Tryz.underlying57 info40 rfl d_c o_m u5 x5_3 t108 [.slice Ao32 x9_4.length co32] (fun _=>True) (fun k_=>some k_ = (.slice Ao32 x9_4.length co32:Value).ownBlock) rfl rfl ?aP (fun k_ hk_=>((Kd.R_mono (ok':=fun k_=>((fun _=>True)) k_ ∧ some k_ ≠ (u5:Value).ownBlock) (Kd.R_apart' (HO_9.out) (Kd.S_typed HO_5.out) d_c) (fun k_ hk=>⟨trivial,hk.2⟩))).1 k_ hk_.symm) ?aF ?aO ?aB ?aS ?aL ?_;(case aP=>exact aq33);(case aB=>exact aq0);(case aF=>exact aq89);(case aO=>exact aq39);(case aS=>exact aq80);(case aL=>have:=LMc31.out;omega);intro v110 w34 ho hb hg hat;rw [← Ny109.out] at ho;replace BK101:=am (bg BK101 hg (Kd.S_ne HO_5.out BK101.out d_c));replace HB:=am (hb);have HO111:=am (ho);clear HO_5 HO_9 ho hb hg hat))
           repeat (go_quiet (fail);try go_wp2_with (first | (go_at_call 212;(with_reducible refine (slices_Reverse_int_int.calls k4 (fun k_=>some k_ = (.slice Ao32 x9_4.length co32:Value).ownBlock) (.slice Ao32 x9_4.length co32) x9_4 t108 w _ ?side1 ?side2 A30.out).mono ?_);(case side1=>exact aq0);(case side2=>exact Kd.R_tight rfl HO_9.out);rintro e w33 ⟨rfl,hy0,hb,hkp⟩;replace HO_5:=am (Kd.S_mono (ok':=fun k_=>some k_ ≠ (.slice Ao32 x9_4.length co32:Value).ownBlock) (Kd.S_keptB (HO_5.out) hkp (fun k_ hk_ hs_=>(hk_) hs_)) (fun k_ hk_=>hk_.1));replace BK101:=am (blk_kept aq1 hkp (fun hs_=>(fun e_=>(Kd.R_ne HO_9.out BK101.out d_c) e_) hs_));replace HO_9:=am (Kd.R_reok rfl hy0 (fun k_ e_=>HO_9.out.1 k_ e_));replace HB:=am (hb);(try clear hb);(try clear hkp);(try clear hy0)) | ((with_reducible refine gate_builtin (b:=.append) (xs:=#[.tmp 64,.tmp 66]) rfl ?_);at_builtin;refine Kd.S_append (Kd.slice 3 (Kd.int .i64)) (w0:=w) w.heap.size rfl (.tmp 64) (.tmp 66) 57 40 (.slice none 0 0) 24 rfl Tryz.underlying57 info40 rfl d_c o_m u5 x5_3 t108 [.slice Ao32 x9_4.length co32] (fun _=>True) (fun k_=>some k_ = (.slice Ao32 x9_4.length co32:Value).ownBlock) rfl rfl ?aP (fun k_ hk_=>((Kd.R_mono (ok':=fun k_=>((fun _=>True)) k_ ∧ some k_ ≠ (u5:Value).ownBlock) (Kd.R_apart' (HO_9.out) (Kd.S_typed HO_5.out) d_c) (fun k_ hk=>⟨trivial,hk.2⟩))).1 k_ hk_.symm) ?aF ?aO ?aB ?aS ?aL ?_;(case aP=>exact aq33);(case aB=>exact aq0);(case aF=>exact aq89);(case aO=>exact aq39);(case aS=>exact aq80);(case aL=>have:=LMc31.out;omega);intro v110 w34 ho hb hg hat;rw [← Ny109.out] at ho;replace BK101:=am (bg BK101 hg (Kd.S_ne HO_5.out BK101.out d_c));replace HB:=am (hb);have HO111:=am (ho);clear HO_5 HO_9 ho hb hg hat)))
           go_roundg k4
           case measure=>have:=HJ2.out;have:=HJ8.out;have:=HK3.out;have:=HK4.out;omega
           case rel=>exact ⟨(y109),(wrap64 (x27_3 + 1)),aq7,H',⟨aq106⟩,⟨by (with_reducible repeat (first | apply Kd.S_alloc | apply Kd.S_drewN | apply Kd.S_drew));exact HO111.out⟩,⟨aq1⟩,⟨aq0⟩⟩
          rw [if_neg c29] at H
          have c29b0:=beq_eq_false_iff_ne.mpr c29
          have c29b1:=bne_iff_ne.mpr c29
          by_cases c35:a1 = 100
          rotate_left
          ·rw [if_neg c35] at H
           have c35b0:=beq_eq_false_iff_ne.mpr c35
           have c35b1:=bne_iff_ne.mpr c35
           replace H:=gd H
           obtain ⟨c41,H⟩:=H
           have LMc41:=am c41
           clear c41
           obtain ⟨y116,hy_⟩:∃ y_:List (List Int),y_ = (x5_3 ++ [x9_4]):=⟨_,rfl⟩
           replace H:(impl_tray_lines.l0 k4 a1 y116 x7_8 x6_8 (wrap64 (x27_3 + 1)) a0_0 a0_1 l0_2) = some r:=aq5
           have Ny116:=am hy_
           clear hy_
           have H':=am H
           clear H
           obtain ⟨Ao43,co43,eo43⟩:=Kd.R_slice HO_9.out
           subst eo43
           go_wp2_with (first | ((with_reducible refine gate_builtin (b:=.append) (xs:=#[.tmp 64,.tmp 66]) rfl ?_);at_builtin;refine Kd.S_append (Kd.slice 3 (Kd.int .i64)) (w0:=w) w.heap.size rfl (.tmp 64) (.tmp 66) 57 40 (.slice none 0 0) 24 rfl Tryz.underlying57 info40 rfl d_c o_m u5 x5_3 x9_4 [.slice Ao43 x9_4.length co43] (fun _=>True) (fun k_=>some k_ = (.slice Ao43 x9_4.length co43:Value).ownBlock) rfl rfl ?aP (fun k_ hk_=>((Kd.R_mono (ok':=fun k_=>((fun _=>True)) k_ ∧ some k_ ≠ (u5:Value).ownBlock) (Kd.R_apart' (HO_9.out) (Kd.S_typed HO_5.out) d_c) (fun k_ hk=>⟨trivial,hk.2⟩))).1 k_ hk_.symm) ?aF ?aO ?aB ?aS ?aL ?_;(case aP=>exact aq33);(case aB=>exact aq0);(case aF=>exact aq89);(case aO=>exact aq39);(case aS=>exact aq80);(case aL=>have:=LMc41.out;omega);intro v117 w42 ho hb hg hat;rw [← Ny116.out] at ho;replace BK101:=am (bg BK101 hg (Kd.S_ne HO_5.out BK101.out d_c));replace HB:=am (hb);have HO118:=am (ho);clear HO_5 HO_9 ho hb hg hat))
           repeat (go_quiet (fail);try go_wp2_with (first | ((with_reducible refine gate_builtin (b:=.append) (xs:=#[.tmp 64,.tmp 66]) rfl ?_);at_builtin;refine Kd.S_append (Kd.slice 3 (Kd.int .i64)) (w0:=w) w.heap.size rfl (.tmp 64) (.tmp 66) 57 40 (.slice none 0 0) 24 rfl Tryz.underlying57 info40 rfl d_c o_m u5 x5_3 x9_4 [.slice Ao43 x9_4.length co43] (fun _=>True) (fun k_=>some k_ = (.slice Ao43 x9_4.length co43:Value).ownBlock) rfl rfl ?aP (fun k_ hk_=>((Kd.R_mono (ok':=fun k_=>((fun _=>True)) k_ ∧ some k_ ≠ (u5:Value).ownBlock) (Kd.R_apart' (HO_9.out) (Kd.S_typed HO_5.out) d_c) (fun k_ hk=>⟨trivial,hk.2⟩))).1 k_ hk_.symm) ?aF ?aO ?aB ?aS ?aL ?_;(case aP=>exact aq33);(case aB=>exact aq0);(case aF=>exact aq89);(case aO=>exact aq39);(case aS=>exact aq80);(case aL=>have:=LMc41.out;omega);intro v117 w42 ho hb hg hat;rw [← Ny116.out] at ho;replace BK101:=am (bg BK101 hg (Kd.S_ne HO_5.out BK101.out d_c));replace HB:=am (hb);have HO118:=am (ho);clear HO_5 HO_9 ho hb hg hat)))
           go_roundg k4
           case measure=>have:=HJ2.out;have:=HJ8.out;have:=HK3.out;have:=HK4.out;omega
           case rel=>exact ⟨(y116),(wrap64 (x27_3 + 1)),aq7,H',⟨aq106⟩,⟨by (with_reducible repeat (first | apply Kd.S_alloc | apply Kd.S_drewN | apply Kd.S_drew));exact HO118.out⟩,⟨aq1⟩,⟨aq0⟩⟩
          rw [if_pos c35] at H
          have c35b0:=beq_iff_eq.mpr c35
          have c35b1:=bne_eq_false_iff_eq.mpr c35
          clear c35
          obtain ⟨t112,A36,H⟩:=bn H
          replace H:=gd H
          obtain ⟨c37,H⟩:=H
          have LMc37:=am c37
          clear c37
          obtain ⟨y113,hy_⟩:∃ y_:List (List Int),y_ = (x5_3 ++ [t112]):=⟨_,rfl⟩
          replace H:(impl_tray_lines.l0 k4 a1 y113 x7_8 x6_8 (wrap64 (x27_3 + 1)) a0_0 a0_1 l0_2) = some r:=aq5
          have Ny113:=am hy_
          clear hy_
          have H':=am H
          clear H
          obtain ⟨Ao38,co38,eo38⟩:=Kd.R_slice HO_9.out
          subst eo38
          go_wp2_with (first | (go_at_call 212;(with_reducible refine (slices_Reverse_int_int.calls k4 (fun k_=>some k_ = (.slice Ao38 x9_4.length co38:Value).ownBlock) (.slice Ao38 x9_4.length co38) x9_4 t112 w _ ?side1 ?side2 A36.out).mono ?_);(case side1=>exact aq0);(case side2=>exact Kd.R_tight rfl HO_9.out);rintro e w39 ⟨rfl,hy0,hb,hkp⟩;replace HO_5:=am (Kd.S_mono (ok':=fun k_=>some k_ ≠ (.slice Ao38 x9_4.length co38:Value).ownBlock) (Kd.S_keptB (HO_5.out) hkp (fun k_ hk_ hs_=>(hk_) hs_)) (fun k_ hk_=>hk_.1));replace BK101:=am (blk_kept aq1 hkp (fun hs_=>(fun e_=>(Kd.R_ne HO_9.out BK101.out d_c) e_) hs_));replace HO_9:=am (Kd.R_reok rfl hy0 (fun k_ e_=>HO_9.out.1 k_ e_));replace HB:=am (hb);(try clear hb);(try clear hkp);(try clear hy0)) | ((with_reducible refine gate_builtin (b:=.append) (xs:=#[.tmp 64,.tmp 66]) rfl ?_);at_builtin;refine Kd.S_append (Kd.slice 3 (Kd.int .i64)) (w0:=w) w.heap.size rfl (.tmp 64) (.tmp 66) 57 40 (.slice none 0 0) 24 rfl Tryz.underlying57 info40 rfl d_c o_m u5 x5_3 t112 [.slice Ao38 x9_4.length co38] (fun _=>True) (fun k_=>some k_ = (.slice Ao38 x9_4.length co38:Value).ownBlock) rfl rfl ?aP (fun k_ hk_=>((Kd.R_mono (ok':=fun k_=>((fun _=>True)) k_ ∧ some k_ ≠ (u5:Value).ownBlock) (Kd.R_apart' (HO_9.out) (Kd.S_typed HO_5.out) d_c) (fun k_ hk=>⟨trivial,hk.2⟩))).1 k_ hk_.symm) ?aF ?aO ?aB ?aS ?aL ?_;(case aP=>exact aq33);(case aB=>exact aq0);(case aF=>exact aq89);(case aO=>exact aq39);(case aS=>exact aq80);(case aL=>have:=LMc37.out;omega);intro v114 w40 ho hb hg hat;rw [← Ny113.out] at ho;replace BK101:=am (bg BK101 hg (Kd.S_ne HO_5.out BK101.out d_c));replace HB:=am (hb);have HO115:=am (ho);clear HO_5 HO_9 ho hb hg hat))
          repeat (go_quiet (fail);try go_wp2_with (first | (go_at_call 212;(with_reducible refine (slices_Reverse_int_int.calls k4 (fun k_=>some k_ = (.slice Ao38 x9_4.length co38:Value).ownBlock) (.slice Ao38 x9_4.length co38) x9_4 t112 w _ ?side1 ?side2 A36.out).mono ?_);(case side1=>exact aq0);(case side2=>exact Kd.R_tight rfl HO_9.out);rintro e w39 ⟨rfl,hy0,hb,hkp⟩;replace HO_5:=am (Kd.S_mono (ok':=fun k_=>some k_ ≠ (.slice Ao38 x9_4.length co38:Value).ownBlock) (Kd.S_keptB (HO_5.out) hkp (fun k_ hk_ hs_=>(hk_) hs_)) (fun k_ hk_=>hk_.1));replace BK101:=am (blk_kept aq1 hkp (fun hs_=>(fun e_=>(Kd.R_ne HO_9.out BK101.out d_c) e_) hs_));replace HO_9:=am (Kd.R_reok rfl hy0 (fun k_ e_=>HO_9.out.1 k_ e_));replace HB:=am (hb);(try clear hb);(try clear hkp);(try clear hy0)) | ((with_reducible refine gate_builtin (b:=.append) (xs:=#[.tmp 64,.tmp 66]) rfl ?_);at_builtin;refine Kd.S_append (Kd.slice 3 (Kd.int .i64)) (w0:=w) w.heap.size rfl (.tmp 64) (.tmp 66) 57 40 (.slice none 0 0) 24 rfl Tryz.underlying57 info40 rfl d_c o_m u5 x5_3 t112 [.slice Ao38 x9_4.length co38] (fun _=>True) (fun k_=>some k_ = (.slice Ao38 x9_4.length co38:Value).ownBlock) rfl rfl ?aP (fun k_ hk_=>((Kd.R_mono (ok':=fun k_=>((fun _=>True)) k_ ∧ some k_ ≠ (u5:Value).ownBlock) (Kd.R_apart' (HO_9.out) (Kd.S_typed HO_5.out) d_c) (fun k_ hk=>⟨trivial,hk.2⟩))).1 k_ hk_.symm) ?aF ?aO ?aB ?aS ?aL ?_;(case aP=>exact aq33);(case aB=>exact aq0);(case aF=>exact aq89);(case aO=>exact aq39);(case aS=>exact aq80);(case aL=>have:=LMc37.out;omega);intro v114 w40 ho hb hg hat;rw [← Ny113.out] at ho;replace BK101:=am (bg BK101 hg (Kd.S_ne HO_5.out BK101.out d_c));replace HB:=am (hb);have HO115:=am (ho);clear HO_5 HO_9 ho hb hg hat)))
          go_roundg k4
          case measure=>have:=HJ2.out;have:=HJ8.out;have:=HK3.out;have:=HK4.out;omega
          case rel=>exact ⟨(y113),(wrap64 (x27_3 + 1)),aq7,H',⟨aq106⟩,⟨by (with_reducible repeat (first | apply Kd.S_alloc | apply Kd.S_drewN | apply Kd.S_drew));exact HO115.out⟩,⟨aq1⟩,⟨aq0⟩⟩
         rw [if_pos c15] at H
         have c15b0:=decide_eq_true c15
         clear c15
         have HC16:=am H
         clear H
         go_upto_region 12 with (fail)
         repeat (go_quiet (fail);go_upto_region 12 with (fail))
         go_cut [40] (fun v40 wc=>∃ (kq:Nat) (x40_15:Bool),v40 = .bool x40_15 ∧ Aside0 (impl_tray_lines.j4 kq a1 x5_3 x7_8 x27_3 x9_4 x32_4 x6_8 x27_3 x7_8 x32_4 x40_15 a0_0 a0_1 l0_2 = some r) ∧ Aside0 (kq ≤ k4) ∧ Aside0 (Kd.S (Kd.slice 3 (Kd.int .i64)) 40 wc w.heap.size (fun k_=>some k_ ≠ (u9:Value).ownBlock) u5 x5_3) ∧ Aside0 (Kd.R (Kd.int .i64) 3 wc w.heap.size (fun _=>True) u9 x9_4) ∧ Aside0 (wc.heap[gb101]? = some (.cells #[.int .i64 a0_0,.int .i64 a0_1,(.slice A0_2 l0_2.length c0_2)] 65 (0,0))) ∧ Aside0 (Below w.heap.size w wc))
         case first =>
          have H:=HC16.out
          clear HC16
          by_cases c17:a1 = 117
          rotate_left
          ·rw [if_neg c17] at H
           have c17b0:=beq_eq_false_iff_ne.mpr c17
           have c17b1:=bne_iff_ne.mpr c17
           (first | rw [c17b0] | (simp only [i64_w,i32_w];rw [c17b0]) | skip)
           have H':=am H
           clear H
           go_wp2
           repeat (go_quiet (fail);try go_wp2)
           go_meet
           case rel=>exact ⟨_,((a1 == 100)),aq7,H',⟨by have:=HJ2.out;have:=HJ8.out;have:=HK3.out;have:=HK4.out;first | omega | exact Nat.le_refl _⟩,⟨aq28⟩,⟨aq37⟩,⟨aq1⟩,⟨aq0⟩⟩
          rw [if_pos c17] at H
          have c17b0:=beq_iff_eq.mpr c17
          have c17b1:=bne_eq_false_iff_eq.mpr c17
          clear c17
          (first | rw [c17b0] | (simp only [i64_w,i32_w];rw [c17b0]) | skip)
          have H':=am H
          clear H
          go_wp2
          repeat (go_quiet (fail);try go_wp2)
          go_meet
          case rel=>exact ⟨_,(true),aq7,H',⟨by have:=HJ2.out;have:=HJ8.out;have:=HK3.out;have:=HK4.out;first | omega | exact Nat.le_refl _⟩,⟨aq28⟩,⟨aq37⟩,⟨aq1⟩,⟨aq0⟩⟩
         case rest =>
          clear HC16
          try clear c1
          try clear p2
          try clear c8
          try clear c8b0
          try clear c8b1
          try clear c10
          try clear c12
          try clear c12b0
          try clear c15
          try clear c15b0
          try clear c17
          try clear c17b0
          try clear c17b1
          try clear hcz11_0
          try clear hcz11_1
          try clear hcz11_2
          try clear hcz7_0
          try clear hcz7_1
          try clear hcz7_2
          try clear hfz11_0
          try clear hfz11_1
          try clear hfz11_2
          try clear hfz7_0
          try clear hfz7_1
          try clear hfz7_2
          try clear p2
          obtain ⟨kq,x40_15,rfl,HA,HJ15,HO_5,HO_9,BK101,HB⟩:=hcut
          cases kq with
          | zero=>exact absurd HA.out (by simp [impl_tray_lines.j4])
          | succ kj15 =>
           have H:=HA.out
           clear HA
           simp only [impl_tray_lines.j4] at H
           by_cases c18:x40_15 = true
           ·subst c18
            rw [if_pos rfl] at H
            obtain ⟨t119,A19,H⟩:=bn H
            replace H:=gd H
            obtain ⟨c20,H⟩:=H
            have LMc20:=am c20
            clear c20
            obtain ⟨y120,hy_⟩:∃ y_:List Int,y_ = (x9_4 ++ [t119]):=⟨_,rfl⟩
            replace H:(impl_tray_lines.l1 kj15 a1 x5_3 x7_8 x27_3 y120 x6_8 x27_3 x7_8 (wrap64 (x32_4 + 1)) a0_0 a0_1 l0_2) = some r:=aq5
            have Ny120:=am hy_
            clear hy_
            have H':=am H
            clear H
            obtain ⟨hcz21_0,hcz21_1,hcz21_2,hfz21_0,hfz21_1,hfz21_2⟩:=blk3_ BK101.out
            go_wp2_with (first | (go_at_call 211;(with_reducible refine (impl_tray_number.calls a0_0 a0_1 _ _ l0_2 x27_3 x32_4 t119 _ ?side1 ?side2 A19.out).mono ?_);(case side1=>exact aq11);(case side2=>exact HC0_2.out);rintro e w22 ⟨rfl,hb⟩;replace HO_5:=am (Kd.S_below aq28 hb);replace HO_9:=am (Kd.R_below aq37 hb);replace BK101:=am (bb BK101 hb);replace HB:=am (below_step aq0 hb);(try clear hb)) | ((with_reducible refine gate_builtin (b:=.append) (xs:=#[.tmp 41,.tmp 46]) rfl ?_);at_builtin;refine Kd.R_append (Kd.int .i64) (w0:=w) w.heap.size rfl (.tmp 41) (.tmp 46) 40 3 (.int .i64 0) 8 rfl Tryz.underlying40 info3 rfl d_c o_m u9 x9_4 t119 [.int .i64 t119] (fun _=>True) (fun _=>False) rfl rfl ?aP (fun _ hk=>hk.elim) ?aF ?aO ?aB ?aS ?aL ?_;(case aP=>exact rfl);(case aB=>exact aq0);(case aF=>exact aq89);(case aO=>exact aq37);(case aS=>exact aq80);(case aL=>have:=LMc20.out;omega);intro v121 w23 ho hb hg hat;rw [← Ny120.out] at ho;replace HO_5:=am (Kd.S_after (ok:=(fun _=>True)) aq55 hg hat);replace BK101:=am (bg BK101 hg (Kd.R_ne HO_9.out BK101.out d_c));replace HB:=am (hb);have HO122:=am (ho);clear HO_9 ho hb hg hat))
            repeat (go_quiet (fail);try go_wp2_with (first | (go_at_call 211;(with_reducible refine (impl_tray_number.calls a0_0 a0_1 _ _ l0_2 x27_3 x32_4 t119 _ ?side1 ?side2 A19.out).mono ?_);(case side1=>exact aq11);(case side2=>exact HC0_2.out);rintro e w22 ⟨rfl,hb⟩;replace HO_5:=am (Kd.S_below aq28 hb);replace HO_9:=am (Kd.R_below aq37 hb);replace BK101:=am (bb BK101 hb);replace HB:=am (below_step aq0 hb);(try clear hb)) | ((with_reducible refine gate_builtin (b:=.append) (xs:=#[.tmp 41,.tmp 46]) rfl ?_);at_builtin;refine Kd.R_append (Kd.int .i64) (w0:=w) w.heap.size rfl (.tmp 41) (.tmp 46) 40 3 (.int .i64 0) 8 rfl Tryz.underlying40 info3 rfl d_c o_m u9 x9_4 t119 [.int .i64 t119] (fun _=>True) (fun _=>False) rfl rfl ?aP (fun _ hk=>hk.elim) ?aF ?aO ?aB ?aS ?aL ?_;(case aP=>exact rfl);(case aB=>exact aq0);(case aF=>exact aq89);(case aO=>exact aq37);(case aS=>exact aq80);(case aL=>have:=LMc20.out;omega);intro v121 w23 ho hb hg hat;rw [← Ny120.out] at ho;replace HO_5:=am (Kd.S_after (ok:=(fun _=>True)) aq55 hg hat);replace BK101:=am (bg BK101 hg (Kd.R_ne HO_9.out BK101.out d_c));replace HB:=am (hb);have HO122:=am (ho);clear HO_9 ho hb hg hat)))
            go_roundg kj15
            case measure=>have:=HJ2.out;have:=HJ8.out;have:=HK3.out;have:=HK4.out;have:=HJ15.out;omega
            case rel=>exact ⟨(y120),(wrap64 (x32_4 + 1)),aq7,H',⟨by have:=HJ2.out;have:=HJ8.out;have:=HK3.out;have:=HK4.out;have:=HJ15.out;omega⟩,⟨aq58⟩,⟨by (with_reducible repeat (first | apply Kd.R_alloc | apply Kd.R_drewN | apply Kd.R_drew));exact HO122.out⟩,⟨aq1⟩,⟨aq0⟩⟩
           replace c18:=Bool.eq_false_iff.mpr c18
           subst c18
           rw [if_neg Bool.false_ne_true] at H
           obtain ⟨t123,A24,H⟩:=bn H
           replace H:=gd H
           obtain ⟨c25,H⟩:=H
           have LMc25:=am c25
           clear c25
           obtain ⟨y124,hy_⟩:∃ y_:List Int,y_ = (x9_4 ++ [t123]):=⟨_,rfl⟩
           replace H:(impl_tray_lines.l1 kj15 a1 x5_3 x7_8 x27_3 y124 x6_8 x27_3 x7_8 (wrap64 (x32_4 + 1)) a0_0 a0_1 l0_2) = some r:=aq5
           have Ny124:=am hy_
           clear hy_
           have H':=am H
           clear H
           obtain ⟨hcz26_0,hcz26_1,hcz26_2,hfz26_0,hfz26_1,hfz26_2⟩:=blk3_ BK101.out
           go_wp2_with (first | (go_at_call 211;(with_reducible refine (impl_tray_number.calls a0_0 a0_1 _ _ l0_2 x32_4 x27_3 t123 _ ?side1 ?side2 A24.out).mono ?_);(case side1=>exact aq11);(case side2=>exact HC0_2.out);rintro e w27 ⟨rfl,hb⟩;replace HO_5:=am (Kd.S_below aq28 hb);replace HO_9:=am (Kd.R_below aq37 hb);replace BK101:=am (bb BK101 hb);replace HB:=am (below_step aq0 hb);(try clear hb)) | ((with_reducible refine gate_builtin (b:=.append) (xs:=#[.tmp 48,.tmp 53]) rfl ?_);at_builtin;refine Kd.R_append (Kd.int .i64) (w0:=w) w.heap.size rfl (.tmp 48) (.tmp 53) 40 3 (.int .i64 0) 8 rfl Tryz.underlying40 info3 rfl d_c o_m u9 x9_4 t123 [.int .i64 t123] (fun _=>True) (fun _=>False) rfl rfl ?aP (fun _ hk=>hk.elim) ?aF ?aO ?aB ?aS ?aL ?_;(case aP=>exact rfl);(case aB=>exact aq0);(case aF=>exact aq89);(case aO=>exact aq37);(case aS=>exact aq80);(case aL=>have:=LMc25.out;omega);intro v125 w28 ho hb hg hat;rw [← Ny124.out] at ho;replace HO_5:=am (Kd.S_after (ok:=(fun _=>True)) aq55 hg hat);replace BK101:=am (bg BK101 hg (Kd.R_ne HO_9.out BK101.out d_c));replace HB:=am (hb);have HO126:=am (ho);clear HO_9 ho hb hg hat))
           repeat (go_quiet (fail);try go_wp2_with (first | (go_at_call 211;(with_reducible refine (impl_tray_number.calls a0_0 a0_1 _ _ l0_2 x32_4 x27_3 t123 _ ?side1 ?side2 A24.out).mono ?_);(case side1=>exact aq11);(case side2=>exact HC0_2.out);rintro e w27 ⟨rfl,hb⟩;replace HO_5:=am (Kd.S_below aq28 hb);replace HO_9:=am (Kd.R_below aq37 hb);replace BK101:=am (bb BK101 hb);replace HB:=am (below_step aq0 hb);(try clear hb)) | ((with_reducible refine gate_builtin (b:=.append) (xs:=#[.tmp 48,.tmp 53]) rfl ?_);at_builtin;refine Kd.R_append (Kd.int .i64) (w0:=w) w.heap.size rfl (.tmp 48) (.tmp 53) 40 3 (.int .i64 0) 8 rfl Tryz.underlying40 info3 rfl d_c o_m u9 x9_4 t123 [.int .i64 t123] (fun _=>True) (fun _=>False) rfl rfl ?aP (fun _ hk=>hk.elim) ?aF ?aO ?aB ?aS ?aL ?_;(case aP=>exact rfl);(case aB=>exact aq0);(case aF=>exact aq89);(case aO=>exact aq37);(case aS=>exact aq80);(case aL=>have:=LMc25.out;omega);intro v125 w28 ho hb hg hat;rw [← Ny124.out] at ho;replace HO_5:=am (Kd.S_after (ok:=(fun _=>True)) aq55 hg hat);replace BK101:=am (bg BK101 hg (Kd.R_ne HO_9.out BK101.out d_c));replace HB:=am (hb);have HO126:=am (ho);clear HO_9 ho hb hg hat)))
           go_roundg kj15
           case measure=>have:=HJ2.out;have:=HJ8.out;have:=HK3.out;have:=HK4.out;have:=HJ15.out;omega
           case rel=>exact ⟨(y124),(wrap64 (x32_4 + 1)),aq7,H',⟨by have:=HJ2.out;have:=HJ8.out;have:=HK3.out;have:=HK4.out;have:=HJ15.out;omega⟩,⟨aq58⟩,⟨by (with_reducible repeat (first | apply Kd.R_alloc | apply Kd.R_drewN | apply Kd.R_drew));exact HO126.out⟩,⟨aq1⟩,⟨aq0⟩⟩
end Go.Proofs.YtldhkbiomingbaaGreatDoor.F

namespace Go.Proofs.YtldhkbiomingbaaGreatDoor
open Go.RowKit Go.YW.PrintWords Go.YW.PrintLast Go.YW.PrintMore Go.Lib Go.Shelf Go.Sort Go.Proofs.YtldhkbiomingbaaGreatDoor.F
attribute [local go_sem] max2_int min2_int
theorem putRow_heapE {α:Type} [Inhabited α] (enc:α → Value) (W:World) (n g off k:Nat) (d:Array α):(putRow enc (Sort.ahead W n) g off d).heap[k]? = if g = k then (W.heap[k]?).map (onCells (putCells enc off d)) else W.heap[k]?:=by
 unfold putRow mapBlock
 simp only [Array.getElem?_modify,heap_ahead]
theorem sortWorld_heap {α:Type} [Inhabited α] (enc:α → Value) (W:World) (g m k:Nat) (d:Array α) (os:Array Obj) (hk:k < W.heap.size):(sortWorld enc W g 0 m d os).heap[k]? = if g = k then (W.heap[k]?).map (onCells (putCells enc 0 d)) else W.heap[k]?:=by
 unfold sortWorld
 rw [heap_grow_old _ _ (by simpa [putRow,mapBlock] using hk),putRow_heapE]
theorem sortWorld_size {α:Type} [Inhabited α] (enc:α → Value) (W:World) (g m:Nat) (d:Array α) (os:Array Obj):W.heap.size ≤ (sortWorld enc W g 0 m d os).heap.size:=by
 unfold sortWorld Sort.grow putRow mapBlock
 simp
theorem sortWorld_below {α:Type} [Inhabited α] (enc:α → Value) {w W:World} (g m:Nat) (d:Array α) (os:Array Obj) (hW:Go.RowKit.Below w.heap.size w W) (hg:w.heap.size ≤ g):Go.RowKit.Below w.heap.size w (sortWorld enc W g 0 m d os):=by
 have h:Go.RowKit.Below w.heap.size W (sortWorld enc W g 0 m d os):=⟨rfl,rfl,rfl,sortWorld_size enc W g m d os,fun k hk=>by
  rw [sortWorld_heap enc W g m k d os (Nat.lt_of_lt_of_le hk hW.size),if_neg o_m]⟩
 exact hW.trans h
theorem min_calls {A:Option Addr} {c:Nat} {l:List Int} {w:World} (h:Kd.C (Kd.int .i64) w A l.length l) (hne:l ≠ []) :
  Calls Tryz.prog 200 #[.slice A l.length c] w fun e w'=>e = .returned (.int .i64 (Lib.minOf l)) ∧ w' = w:=by
 have hpos:0 < l.length:=List.length_pos_iff.2 hne
 obtain ⟨b,o,rfl,hb,hc⟩:=C_place h hpos
 have:=Tryz.slices_Min_int b o l.length c l w hpos (Nat.le_refl _) h.2.1 (fun j hj=>by rw [hc j _ (List.getElem?_eq_getElem hj),getD_at hj])
 rwa [List.take_length] at this
theorem cmp_calls {A B:Option Addr} {c d:Nat} {l m:List Int} {w:World} (hl:Kd.C (Kd.int .i64) w A l.length l) (hm:Kd.C (Kd.int .i64) w B m.length m) (hle:l ≠ []) (hme:m ≠ []) (h1:0 ≤ Lib.minOf l ∧ Lib.minOf l < 65536) (h2:0 ≤ Lib.minOf m ∧ Lib.minOf m < 65536) :
  Calls Tryz.prog 199 #[.slice A l.length c,.slice B m.length d] w fun e w'=>e = .returned (.int .i64 (Lib.minOf l - Lib.minOf m)) ∧ w' = w:=by
 have c1:=min_calls (c:=c) hl hle
 have c2:=min_calls (c:=d) hm hme
 generalize Lib.minOf l = a at *
 generalize Lib.minOf m = b at *
 have hw:IntKind.i64.wrap (a - b) = a - b:=by rw [IntKind.wrap_i64];omega
 go_enter Tryz.func199,Tryz.ntmps199
 go_wp2_with (first
  | (go_at_call 200;refine c1.mono ?_;rintro e w' ⟨rfl,rfl⟩;clear c1)
  | (go_at_call 200;refine c2.mono ?_;rintro e w' ⟨rfl,rfl⟩))
 go_ret
 exact ⟨by first | rfl | rw [hw] | simp [hw],rfl⟩
theorem ext_all {α:Type} (a:Array α) {n:Nat} (h:a.size = n):a.extract 0 n = a:=by subst h;simp
theorem swo_key {n:Nat} (key:Fin n → Int):SWO (ltOf fun i j:Fin n=>key i - key j) :=
 ⟨fun x=>by unfold ltOf;simp,fun x y z h1 h2=>by unfold ltOf at *;simp at *;omega,fun x y z h1 h2=>by unfold ltOf at *;simp at *;omega⟩
theorem sortfunc_calls {W:World} {base:Nat} {v:Value} {xs:List (List Int)} (h:Kd.R (Kd.slice 3 (Kd.int .i64)) 40 W base (fun _=>True) v xs) (hne:∀ x ∈ xs,x ≠ []) (hlen:xs.length < 65536) (hv:∀ x ∈ xs,0 ≤ Lib.minOf x ∧ Lib.minOf x < 65536) :
  Calls Tryz.prog 198 #[v,.func (.func 199) #[] #[]] W fun e w'=>e = .returned (.tuple #[]) ∧ ∃ ys,ys.Perm xs ∧ ys.Pairwise (fun a b=>Lib.minOf a ≤ Lib.minOf b) ∧ Kd.R (Kd.slice 3 (Kd.int .i64)) 40 w' base (fun _=>True) v ys ∧ (∀ w:World,Go.RowKit.Below w.heap.size w W → w.heap.size ≤ base → Go.RowKit.Below w.heap.size w w') ∧ ∀ k,k < W.heap.size → some k ≠ v.ownBlock → w'.heap[k]? = W.heap[k]?:=by
 rcases Nat.eq_zero_or_pos xs.length with hz | hpos
 ·obtain rfl:xs = []:=List.eq_nil_of_length_eq_zero hz
  obtain ⟨A,c,hs⟩:=Kd.R_slice h
  subst hs
  refine (Tryz.slices_SortFunc_none_f198 (α:=Nat) A c _ W).mono ?_
  rintro e w' ⟨rfl,rfl⟩
  exact ⟨rfl,[],List.Perm.refl _,List.Pairwise.nil,h,fun w hw _=>hw,fun k _ _=>rfl⟩
 ·obtain ⟨h0,inner,ho,hr⟩:=h
  have hil:inner.length = xs.length:=by have:=hr.1;rw [show (Kd.slice 3 (Kd.int .i64)).sz = 1 from rfl,Nat.mul_one] at this;exact this
  obtain ⟨_,⟨rfl,hx⟩ | ⟨g,cap,cur,rfl,hg,hrow,hcl,hcm,hsz,htk⟩⟩:=ho
  ·rw [hx] at hil;simp at hil;omega
  ·haveI:Inhabited (Fin xs.length):=⟨⟨0,hpos⟩⟩
   obtain ⟨enc,henc⟩:∃ enc:Fin xs.length → Value,∀ i,enc i = inner[i.1]'(by have:=i.2;omega):=⟨fun i=>inner[i.1]'(by have:=i.2;omega),fun _=>rfl⟩
   obtain ⟨key,hkey⟩:∃ key:Fin xs.length → Int,∀ i,key i = Lib.minOf xs[i.1]:=⟨fun i=>Lib.minOf xs[i.1],fun _=>rfl⟩
   obtain ⟨d0,hd0⟩:∃ d0:Array (Fin xs.length),d0 = Array.ofFn id:=⟨_,rfl⟩
   have hds:d0.size = xs.length:=by rw [hd0];simp
   have hel:∀ i:Fin xs.length,Kd.R (Kd.int .i64) 3 W base (fun k=>True ∧ some k ≠ some g) (enc i) xs[i.1]:=fun i=>by
    obtain ⟨u,hu,hR⟩:=hr.2 i.1 _ (List.getElem?_eq_getElem i.2)
    have:enc i = u:=by
     rw [henc]
     have e:(inner.drop (i.1 * 1)).take 1 = [inner[i.1]'(by have:=i.2;omega)]:=by
      rw [Nat.mul_one,List.drop_eq_getElem_cons (by have:=i.2;omega),List.take_succ_cons];rfl
     have hu':(inner.drop (i.1 * 1)).take 1 = [u]:=hu
     rw [e] at hu'
     injection hu'
    rw [this];exact hR
   have hH:Holds enc W g 0 d0:=by
    intro j hj
    have hj':j < xs.length:=by omega
    have e1:d0[j]! = ⟨j,hj'⟩:=by rw [getElem!_pos d0 j hj];simp [hd0]
    rw [e1,henc]
    refine ⟨(blk_cell hrow (0 + j)).trans ?_,blk_frozen hrow _⟩
    rw [Nat.zero_add,← Array.getElem?_toList]
    have:inner[j]? = cur.toList[j]?:=by
     rw [← htk,show (Kd.slice 3 (Kd.int .i64)).sz = 1 from rfl,Nat.mul_one,List.getElem?_take,if_pos hj']
    rw [← this]
    exact List.getElem?_eq_getElem _
   have hcmp:CmpLays1 Tryz.prog 199 #[] enc (fun i j=>key i - key j) g 0 d0.size W:=by
    intro m os dk hs x y
    have at_:∀ i:Fin xs.length,∃ A c,enc i = .slice A xs[i.1].length c ∧ Kd.C (Kd.int .i64) (sortWorld enc W g 0 m dk os) A xs[i.1].length xs[i.1]:=fun i=>by
     obtain ⟨A,c,e,_,hC⟩:=Kd.R_reads (Kd.R_step (hel i) (w1:=sortWorld enc W g 0 m dk os) (fun k hk hlt=>by rw [sortWorld_heap enc W g m k dk os hlt,if_neg (fun e=>hk.2 (by rw [e]))]))
     exact ⟨A,c,e,hC⟩
    obtain ⟨A,c,e1,C1⟩:=at_ x
    obtain ⟨B,d,e2,C2⟩:=at_ y
    have m1:=List.getElem_mem x.2
    have m2:=List.getElem_mem y.2
    show Calls _ _ (#[enc x,enc y] ++ #[]) _ _
    rw [e1,e2]
    refine (cmp_calls C1 C2 (hne _ m1) (hne _ m2) (hv _ m1) (hv _ m2)).mono ?_
    rintro e w' ⟨rfl,rfl⟩
    exact ⟨by show _ = Ending.returned (Value.int .i64 (key x - key y));rw [hkey,hkey],0,#[],by rw [grow_empty];rfl⟩
   have eg:∀ args w,(callFunc 199 args).run Tryz.prog w = .ok (.enter 199 args) w:=enters_of Tryz.func199 k_r rfl
   have h1:OneCell enc:=fun i=>by
    obtain ⟨A,c,e⟩:=Kd.R_slice (hel i)
    rw [e];rfl
   have main:=Tryz.slices_SortFunc_f198 enc h1 (fun i j=>key i - key j) (swo_key key) 199 #[] g 0 cap d0 W eg hcmp hH (blk_lt hrow) o_m
   rw [hds] at main
   refine main.mono ?_
   rintro e w' ⟨he,d',n',os,hp,hs,rfl⟩
   have hd':d'.size = xs.length:=by rw [hp.1,hds]
   refine ⟨he,d'.toList.map fun i=>xs[i.1],?_,?_,?_,fun w hw hb=>sortWorld_below enc g n' d' os hw (Nat.le_trans hb hg),fun k hk hne=>by rw [sortWorld_heap enc W g n' k d' os hk,if_neg (fun e=>hne (by rw [e];rfl))]⟩
   ·have h2:=hp.2.2
    rw [ext_all d' hd',ext_all d0 hds] at h2
    refine (h2.map _).trans (List.Perm.of_eq ?_)
    subst hd0
    apply List.ext_getElem
    ·simp
    ·intro i h1 h2;simp
   ·rw [List.pairwise_map,List.pairwise_iff_getElem]
    intro i j hi hj hij
    have:=hs i j (Nat.zero_le _) hij (by simpa [hd'] using hj)
    rw [getElem!_pos d' i (by simpa using hi),getElem!_pos d' j (by simpa using hj)] at this
    unfold ltOf at this
    simp only [decide_eq_false_iff_not,hkey] at this
    simp only [Array.getElem_toList]
    omega
   ·have hyl:(d'.toList.map fun i:Fin xs.length=>xs[i.1]).length = xs.length:=by rw [List.length_map,Array.length_toList,hd']
    refine ⟨fun _ _=>trivial,d'.toList.map enc,?_,?_,?_⟩
    ·rw [hyl]
     refine ⟨by rw [List.length_map,Array.length_toList,hd',show (Kd.slice 3 (Kd.int .i64)).sz = 1 from rfl,Nat.mul_one],.inr ⟨g,cap,putCells enc 0 d' cur,rfl,hg,?_,hcl,hcm,?_,?_⟩⟩
     ·rw [sortWorld_heap enc W g n' g d' os (blk_lt hrow),if_pos rfl,hrow];rfl
     ·rw [← hsz];unfold putCells;simp
     ·rw [show (Kd.slice 3 (Kd.int .i64)).sz = 1 from rfl,Nat.mul_one] at hsz ⊢
      unfold putCells
      apply List.ext_getElem
      ·simp [hd'];omega
      ·intro i h1 h2
       have hi:i < d'.size:=by simpa using h2
       simp [hi]
    ·rw [List.length_map,List.length_map,show (Kd.slice 3 (Kd.int .i64)).sz = 1 from rfl,Nat.mul_one]
    ·intro j p hj
     rw [List.getElem?_map,Option.map_eq_some_iff] at hj
     obtain ⟨i,hi,rfl⟩:=hj
     obtain ⟨hjl,hji⟩:=List.getElem?_eq_some_iff.1 hi
     refine ⟨enc i,?_,Kd.R_step (hel i) (fun k hk hlt=>by rw [sortWorld_heap enc W g n' k d' os hlt,if_neg (fun e=>hk.2 (by rw [← e];rfl))])⟩
     rw [show (Kd.slice 3 (Kd.int .i64)).sz = 1 from rfl,Nat.mul_one,List.drop_eq_getElem_cons (by simpa using hjl),List.take_succ_cons,List.take_zero,List.getElem_map,hji]
end Go.Proofs.YtldhkbiomingbaaGreatDoor

namespace Go.Proofs.YtldhkbiomingbaaGreatDoor.F
open Go.Proofs.YtldhkbiomingbaaGreatDoor
open Go.RowKit Go.YW.PrintWords Go.YW.PrintLast Go.YW.PrintMore
attribute [local go_sem] max2_int min2_int max_two min_two max_three min_three max_four min_four
mutual
def impl_tray_strI.l0:Nat → List (List Int) → List (List Int) → Int → Int → Int → Int → List Int → Option ((List (List Int)))
 | 0,_,_,_,_,_,_,_=>none
 | k + 1,x5,x14,x15,x16,x102000,x102001,x102002=>if x16 < x15 then (if 0 ≤ x16 then (if x16 < (x14.length:Int) then (impl_tray_strI.l1 k x5 (([]:List Int)) x14 x15 x16 (rd_L3 x14 x16) ((rd_L3 x14 x16).length:Int) 0 x102000 x102001 x102002) else (none)) else (none)) else (some x5)
def impl_tray_strI.l1:Nat → List (List Int) → List Int → List (List Int) → Int → Int → List Int → Int → Int → Int → Int → List Int → Option ((List (List Int)))
 | 0,_,_,_,_,_,_,_,_,_,_,_=>none
 | k + 1,x5,x8,x14,x15,x16,x21,x22,x23,x102000,x102001,x102002=>if x23 < x22 then (if 0 ≤ x23 then (if x23 < (x21.length:Int) then (if 0 ≤ (rd x21 x23) then (if (rd x21 x23) < (x102002.length:Int) then (if (rd x102002 (rd x21 x23)) = 35 then (if (x8.length:Int) > 0 then (if x5.length < 5864062014805 then (impl_tray_strI.l1 k (x5 ++ [x8]) ([]:List Int) x14 x15 x16 x21 x22 (wrap64 (x23 + 1)) x102000 x102001 x102002) else (none)) else (impl_tray_strI.l1 k x5 x8 x14 x15 x16 x21 x22 (wrap64 (x23 + 1)) x102000 x102001 x102002)) else (if x8.length < 17592186044416 then (impl_tray_strI.l1 k x5 (x8 ++ [rd x21 x23]) x14 x15 x16 x21 x22 (wrap64 (x23 + 1)) x102000 x102001 x102002) else (none))) else (none)) else (none)) else (none)) else (none)) else (if (x8.length:Int) > 0 then (if x5.length < 5864062014805 then (impl_tray_strI.l0 k (x5 ++ [x8]) x14 x15 (wrap64 (x16 + 1)) x102000 x102001 x102002) else (none)) else (impl_tray_strI.l0 k x5 x14 x15 (wrap64 (x16 + 1)) x102000 x102001 x102002))
end
def impl_tray_strI.f (k:Nat) (a0_0:Int) (a0_1:Int) (l0_2:List Int) (a1:Int):Option ((List (List Int))):=(impl_tray_lines.f k a0_0 a0_1 l0_2 a1).bind fun t105=>(impl_tray_strI.l0 k (([]:List (List Int))) t105 (t105.length:Int) 0 a0_0 a0_1 l0_2)
theorem impl_tray_strI.mono_l:∀ k,(∀ y0 y1 y2 y3 y4 y5 y6,LeO (impl_tray_strI.l0 k y0 y1 y2 y3 y4 y5 y6) (impl_tray_strI.l0 (k + 1) y0 y1 y2 y3 y4 y5 y6)) ∧ (∀ y0 y1 y2 y3 y4 y5 y6 y7 y8 y9 y10,LeO (impl_tray_strI.l1 k y0 y1 y2 y3 y4 y5 y6 y7 y8 y9 y10) (impl_tray_strI.l1 (k + 1) y0 y1 y2 y3 y4 y5 y6 y7 y8 y9 y10))
 | 0=>⟨fun _ _ _ _ _ _ _ r h=>by simp [impl_tray_strI.l0] at h,fun _ _ _ _ _ _ _ _ _ _ _ r h=>by simp [impl_tray_strI.l1] at h⟩
 | k + 1=>by
  obtain ⟨ih0,ih1⟩:=impl_tray_strI.mono_l k
  refine ⟨?_,?_⟩
  ·intro y0 y1 y2 y3 y4 y5 y6
   unfold impl_tray_strI.l0
   have im0:=@impl_tray_lines.mono;exact mo
  ·intro y0 y1 y2 y3 y4 y5 y6 y7 y8 y9 y10
   unfold impl_tray_strI.l1
   have im0:=@impl_tray_lines.mono;exact mo
theorem impl_tray_strI.calls (k:Nat) (a0_0:Int) (a0_1:Int) (A0_2:Option Addr) (c0_2:Nat) (l0_2:List Int) (a1:Int) (r:List (List Int)) (w:World) (hr0_2:Kd.C (Kd.int .u8) w A0_2 l0_2.length l0_2) (hc0_2:l0_2.length ≤ c0_2) (hne_:∀ x ∈ r,x ≠ []) (hlen_:r.length < 65536) (hv_:∀ x ∈ r,0 ≤ Go.Lib.minOf x ∧ Go.Lib.minOf x < 65536) (h:impl_tray_strI.f k a0_0 a0_1 l0_2 a1 = some r) :
  Calls Tryz.prog 172 #[.agg #[.int .i64 a0_0,.int .i64 a0_1,.slice A0_2 l0_2.length c0_2],.int .u8 a1] w fun e w'=>∃ v0_:Value,e = .returned (v0_) ∧ (∃ ys,ys.Perm r ∧ ys.Pairwise (fun a b=>Go.Lib.minOf a ≤ Go.Lib.minOf b) ∧ Kd.R (Kd.slice 3 (Kd.int .i64)) 40 w' w.heap.size (fun _=>True) v0_ ys) ∧ Below w.heap.size w w':=by
 have HP_:=am (And.intro hne_ (And.intro hlen_ hv_))
 clear hne_ hlen_ hv_
 have hu65:=Tryz.underlying65
 have HR0_2:=am hr0_2
 have HC0_2:=am hc0_2
 clear hr0_2 hc0_2
 have HB:=am (Below.refl w.heap.size w)
 have H:((impl_tray_lines.f k a0_0 a0_1 l0_2 a1).bind fun t105=>(impl_tray_strI.l0 k (([]:List (List Int))) t105 (t105.length:Int) 0 a0_0 a0_1 l0_2)) = some r:=h
 clear h
 obtain ⟨y102,hy102⟩:∃ y_:List (List Int),y_ = (([]:List (List Int))):=⟨_,rfl⟩
 replace H:((impl_tray_lines.f k a0_0 a0_1 l0_2 a1).bind fun t105=>(impl_tray_strI.l0 k y102 t105 (t105.length:Int) 0 a0_0 a0_1 l0_2)) = some r:=by first | (rw [hy102];with_reducible exact H) | (have H2_:=(Option.bind_some _ _).symm.trans H;rw [hy102];with_reducible exact H2_) | (have H2_:=(Option.bind_some _ _).symm.trans H;with_reducible exact H2_) | with_reducible exact H | (rw [hy102];exact H) | exact H
 have Ny102:=am hy102
 clear hy102
 replace H:=Option.bind_eq_some_iff.mp H
 obtain ⟨t105,A30,H⟩:=H
 replace H:(impl_tray_strI.l0 k y102 t105 (t105.length:Int) 0 a0_0 a0_1 l0_2) = some r:=H
 have A3:=am A30
 clear A30
 have H':=am H
 clear H
 go_enter Tryz.func172,Tryz.ntmps172
 go_wp2_with (first | (refine bx 2 #[.int .i64 a0_0,.int .i64 a0_1,.slice A0_2 l0_2.length c0_2] 65 ?_;intro gb101 hg w4 hbox hb;have BK101:=am (hbox);have GW101:=am ((by rw [hg];exact (below_size aq2):w.heap.size ≤ gb101));have GE101:=GW101;replace HB:=am (below_step aq2 hb);clear hb hbox hg) | ((with_reducible refine gate_dst (N:=11) rfl ?_);refine Kd.S_lit (Kd.slice 3 (Kd.int .i64)) _ 40 ?hg (N:=11) ?hd (xs:=([]:List (List Int))) (inner:=[]) (ok:=fun _=>True) (okp:=fun _=>True) ?hr ?hp (fun _ hk=>hk) trivial (Below.refl _ _) (Nat.le_refl _) (by simp) ?_;(case hd=>rfl);(case hg=>rfl);(case hr=>exact aq13);(case hp=>exact (Reps.none _ _));intro v103 w5 ho6 hb hg_ hnew_;clear hg_ hnew_;(first | rw [← Ny102.out] at ho6 | (simp only [Int.reduceToNat] at ho6;rw [← Ny102.out] at ho6));have HO104:=am (Kd.S_lower ho6 (below_size aq0));replace BK101:=am (bb BK101 hb);replace HB:=am (below_step aq0 hb);clear hb ho6;have hcz7_0:w5.cell? ⟨gb101,0,none⟩ = some (.int .i64 a0_0):=(blk_cell BK101.out 0).trans rfl;have hcz7_1:w5.cell? ⟨gb101,1,none⟩ = some (.int .i64 a0_1):=(blk_cell BK101.out 1).trans rfl;have hcz7_2:w5.cell? ⟨gb101,2,none⟩ = some (.slice A0_2 l0_2.length c0_2):=(blk_cell BK101.out 2).trans rfl;have hfz7_0:=blk_frozen BK101.out 0;have hfz7_1:=blk_frozen BK101.out 1;have hfz7_2:=blk_frozen BK101.out 2) | ((with_reducible refine gate_callee (f:=197) rfl ?_);refine goesL_ (some 14) rfl rfl Tryz.func197 k_r rfl #[.agg #[.int .i64 a0_0,.int .i64 a0_1,.slice A0_2 l0_2.length c0_2],.int .u8 a1] rfl aq6 ?_;(with_reducible refine (impl_tray_lines.calls k a0_0 a0_1 _ _ l0_2 a1 t105 _ ?side1 ?side2 A3.out).mono ?_);(case side1=>exact aq11);(case side2=>exact HC0_2.out);rintro e w8 ⟨v106,rfl,ho0,hb⟩;refine ⟨_,rfl,?_⟩;have HO107:=am (Kd.S_lower (Kd.S_new' ho0 (Kd.S_lt aq71)) (below_size aq0));replace HO104:=am (Kd.S_elder' aq71 (Kd.S_base ho0) hb);replace BK101:=am (bb BK101 hb);replace HB:=am (below_step aq0 hb);(try clear hb);(try clear ho0);obtain ⟨Ao9,co9,eo9⟩:=Kd.S_slice HO107.out;subst eo9))
 go_loopg [5,16] k (fun kq v5 v16 w'=>∃ (x5_1:List (List Int)) (x16_1:Int),v16 = .int .i64 x16_1 ∧ Aside0 (impl_tray_strI.l0 kq x5_1 t105 (t105.length:Int) x16_1 a0_0 a0_1 l0_2 = some r) ∧ Aside0 (kq ≤ k) ∧ Aside0 (Kd.S (Kd.slice 3 (Kd.int .i64)) 40 w' w.heap.size (fun k_=>some k_ ≠ ((.slice Ao9 t105.length co9):Value).ownBlock) v5 x5_1) ∧ Aside0 (Kd.S (Kd.slice 3 (Kd.int .i64)) 40 w' w.heap.size (fun k_=>some k_ ≠ (v5:Value).ownBlock) (.slice Ao9 t105.length co9) t105) ∧ Aside0 (w'.heap[gb101]? = some (.cells #[.int .i64 a0_0,.int .i64 a0_1,(.slice A0_2 l0_2.length c0_2)] 65 (0,0))) ∧ Aside0 (Below w.heap.size w w'))
 case atStart=>exact ⟨(y102),(0),aq7,H',⟨Nat.le_refl _⟩,⟨by (with_reducible repeat (first | apply Kd.S_alloc | apply Kd.S_drewN | apply Kd.S_drew));exact Kd.S_mono HO104.out (fun _ hk=>hk.2)⟩,⟨by (with_reducible repeat (first | apply Kd.S_alloc | apply Kd.S_drewN | apply Kd.S_drew));exact Kd.S_mono HO107.out (fun _ hk=>hk.2)⟩,⟨aq1⟩,⟨aq0⟩⟩
 case round =>
  clear H'
  try clear c1
  try clear p2
  try clear hcz7_0
  try clear hcz7_1
  try clear hcz7_2
  try clear hfz7_0
  try clear hfz7_1
  try clear hfz7_2
  obtain ⟨x5_1,x16_1,rfl,HA,HK1,HO_5,HO_14,BK101,HB⟩:=hrel
  cases gk with
  | zero=>exact absurd HA.out (by simp [impl_tray_strI.l0])
  | succ k1 =>
   have H:=HA.out
   clear HA
   simp only [impl_tray_strI.l0] at H
   by_cases c10:x16_1 < (t105.length:Int)
   rotate_left
   ·rw [if_neg c10] at H
    have c10b0:decide (x16_1 < (t105.length:Int)) = false:=decide_eq_false c10
    clear c10
    obtain rfl:=Option.some.inj H
    go_wp2_with (first | (go_at_call 198;refine (sortfunc_calls (Kd.S_R (Kd.S_mono HO_5.out (fun _ _=>trivial))) HP_.out.1 HP_.out.2.1 HP_.out.2.2).mono ?_;rintro e_ w9_ ⟨rfl,ys_,hp_,hs_,hR_,hB_,_⟩))
    go_ret
    exact ⟨_,rfl,⟨ys_,hp_,hs_,hR_⟩,hB_ _ HB.out (Nat.le_refl _)⟩
   rw [if_pos c10] at H
   have c10b0:decide (x16_1 < (t105.length:Int)) = true:=decide_eq_true c10
   clear c10
   replace H:=gd H
   obtain ⟨c11,H⟩:=H
   have c11b0:decide (0 ≤ x16_1) = true:=decide_eq_true c11
   clear c11
   replace H:=gd H
   obtain ⟨c12,H⟩:=H
   have c12b0:decide (x16_1 < (t105.length:Int)) = true:=decide_eq_true c12
   clear c12
   obtain ⟨y109,hy109⟩:∃ y_:List Int,y_ = (([]:List Int)):=⟨_,rfl⟩
   replace H:(impl_tray_strI.l1 k1 x5_1 y109 t105 (t105.length:Int) x16_1 (rd_L3 t105 x16_1) ((rd_L3 t105 x16_1).length:Int) 0 a0_0 a0_1 l0_2) = some r:=by first | (rw [hy109];with_reducible exact H) | (have H2_:=(Option.bind_some _ _).symm.trans H;rw [hy109];with_reducible exact H2_) | (have H2_:=(Option.bind_some _ _).symm.trans H;with_reducible exact H2_) | with_reducible exact H | (rw [hy109];exact H) | exact H
   have Ny109:=am hy109
   clear hy109
   have H':=am H
   clear H
   have p108:0 ≤ (x16_1:Int):=of_decide_eq_true aq4
   have q108:x16_1 < (t105.length:Int):=of_decide_eq_true aq4
   obtain ⟨ad108,A108_0,c108_0,e108,hx108_0,hl108_0,hi108_0⟩:=at_L3 (Kd.S_reads' HO_14.out).2.2 x16_1 p108 q108
   cases e108
   obtain ⟨ce108,hce108,hMe108,hcc108⟩:=Kd.S_get HO_14.out [] x16_1 p108 (by first | exact q108 | exact of_decide_eq_true aq4 | (have e_:=(Kd.S_reads' HO_14.out).1;omega))
   obtain ⟨ve108_0,rfl,ge108_0⟩:=hMe108
   have hv108_0:=hcc108 0 _ rfl
   rw [Nat.add_zero,show ((Kd.slice 3 (Kd.int .i64))).sz = 1 from rfl,Nat.mul_one] at hv108_0
   replace hv108_0:=Option.some.inj (hv108_0.symm.trans hx108_0)
   rw [hv108_0] at ge108_0
   have HL108_0:=am (show Kd.R (Kd.int .i64) 3 _ _ _ _ (rd_L3 t105 x16_1) from ge108_0)
   clear hv108_0 ge108_0 hcc108 hce108
   have HR108_0:=am hi108_0
   have HC108_0:=am hl108_0
   clear hi108_0 hl108_0
   replace p108:=eq_true p108
   replace q108:=eq_true q108
   go_wp2_with (first | ((with_reducible refine gate_dst (N:=20) rfl ?_);refine Kd.R_lit (Kd.int .i64) _ 3 ?hg (N:=20) ?hd (xs:=([]:List Int)) (inner:=[]) (ok:=fun _=>True) (okp:=fun _=>True) ?hr ?hp (fun _ hk=>hk) trivial (Below.refl _ _) (Nat.le_refl _) (by simp) ?_;(case hd=>rfl);(case hg=>rfl);(case hr=>exact aq13);(case hp=>exact (Reps.none _ _));intro v110 w13 ho14 hb hg_ hnew_;clear hg_ hnew_;(first | rw [← Ny109.out] at ho14 | (simp only [Int.reduceToNat] at ho14;rw [← Ny109.out] at ho14));replace HO_5:=am (Kd.S_elder' aq28 (Kd.R_base ho14) hb);replace HO_14:=am (Kd.S_elder' aq49 (Kd.R_base ho14) hb);have HO111:=am (Kd.R_lower (Kd.R_new' ho14 (Kd.R_lt (by (with_reducible repeat (first | apply Kd.R_alloc | apply Kd.R_drewN | apply Kd.R_drew));exact HL108_0.out))) (below_size aq0));replace HL108_0:=am (Kd.R_elder' (by (with_reducible repeat (first | apply Kd.R_alloc | apply Kd.R_drewN | apply Kd.R_drew));exact HL108_0.out) (Kd.R_base ho14) hb);replace BK101:=am (bb BK101 hb);replace HR108_0:=am (Kd.C_below (by repeat (first | (with_reducible exact HR108_0.out) | (with_reducible refine Kd.C_alloc ?_ _) | (with_reducible refine Kd.C_drewN ?_ _) | (with_reducible refine Kd.C_drew ?_) | exact HR108_0.out)) hb);replace HB:=am (below_step aq0 hb);clear hb ho14))
   go_loopg [5,8,23] k1 (fun kq v5 v8 v23 w'=>∃ (x5_2:List (List Int)) (x8_2:List Int) (x23_2:Int),v23 = .int .i64 x23_2 ∧ Aside0 (impl_tray_strI.l1 kq x5_2 x8_2 t105 (t105.length:Int) x16_1 (rd_L3 t105 x16_1) ((rd_L3 t105 x16_1).length:Int) x23_2 a0_0 a0_1 l0_2 = some r) ∧ Aside0 (kq ≤ k1) ∧ Aside0 (Kd.S (Kd.slice 3 (Kd.int .i64)) 40 w' w.heap.size (fun k_=>some k_ ≠ (v8:Value).ownBlock ∧ some k_ ≠ ((.slice (some ad108) t105.length co9):Value).ownBlock) v5 x5_2) ∧ Aside0 (Kd.R (Kd.int .i64) 3 w' w.heap.size (fun _=>True) v8 x8_2) ∧ Aside0 (Kd.S (Kd.slice 3 (Kd.int .i64)) 40 w' w.heap.size (fun k_=>some k_ ≠ (v5:Value).ownBlock ∧ some k_ ≠ (v8:Value).ownBlock) (.slice (some ad108) t105.length co9) t105) ∧ Aside0 (w'.heap[gb101]? = some (.cells #[.int .i64 a0_0,.int .i64 a0_1,(.slice A0_2 l0_2.length c0_2)] 65 (0,0))) ∧ Aside0 (Below w.heap.size w w') ∧ Aside0 (Kd.R (Kd.int .i64) 3 w' w.heap.size (fun k_=>some k_ ≠ (v5:Value).ownBlock ∧ some k_ ≠ (v8:Value).ownBlock) (.slice A108_0 (rd_L3 t105 x16_1).length c108_0) (rd_L3 t105 x16_1)))
   case atStart=>exact ⟨(x5_1),(y109),(0),aq7,H',⟨Nat.le_refl _⟩,⟨aq78⟩,⟨by (with_reducible repeat (first | apply Kd.R_alloc | apply Kd.R_drewN | apply Kd.R_drew));exact Kd.R_mono HO111.out (fun _ hk=>trivial)⟩,⟨aq49⟩,⟨aq1⟩,⟨aq0⟩,⟨by first | exact Kd.R_mono HL108_0.out (fun _ hk=>⟨hk.1.1,hk.2⟩) | exact Kd.R_mono HL108_0.out (fun _ hk=>⟨hk.1.1.1,hk.2⟩)⟩⟩
   case round =>
    clear H'
    try clear c1
    try clear p1
    try clear q1
    try clear hx1
    try clear p2
    try clear c10
    try clear c10b0
    try clear p10
    try clear q10
    try clear hx10
    try clear c11
    try clear c11b0
    try clear c12
    try clear c12b0
    try clear hcz7_0
    try clear hcz7_1
    try clear hcz7_2
    try clear hfz7_0
    try clear hfz7_1
    try clear hfz7_2
    try clear hx108_0
    try clear p108
    try clear p2
    try clear q108
    obtain ⟨x5_2,x8_2,x23_2,rfl,HA,HK2,HO_5,HO_8,HO_14,BK101,HB,HLq⟩:=hrel
    cases gk with
    | zero=>exact absurd HA.out (by simp [impl_tray_strI.l1])
    | succ k2 =>
     have H:=HA.out
     clear HA
     simp only [impl_tray_strI.l1] at H
     by_cases c15:x23_2 < ((rd_L3 t105 x16_1).length:Int)
     rotate_left
     ·rw [if_neg c15] at H
      have c15b0:decide (x23_2 < ((rd_L3 t105 x16_1).length:Int)) = false:=decide_eq_false c15
      clear c15
      by_cases c31:(x8_2.length:Int) > 0
      rotate_left
      ·rw [if_neg c31] at H
       have c31b0:decide (0 < (x8_2.length:Int)) = false:=decide_eq_false c31
       have c31b1:decide (0 < x8_2.length) = false:=decide_eq_false o_m
       clear c31
       have H':=am H
       clear H
       obtain ⟨Ao35,co35,eo35⟩:=Kd.R_slice HO_8.out
       subst eo35
       go_wp2
       go_roundg k2
       case measure=>have:=HK1.out;have:=HK2.out;omega
       case rel=>exact ⟨(x5_2),(wrap64 (x16_1 + 1)),aq7,H',⟨aq75⟩,⟨aq58⟩,⟨by (with_reducible repeat (first | apply Kd.S_alloc | apply Kd.S_drewN | apply Kd.S_drew));exact Kd.S_mono HO_14.out (fun _ hk=>hk.1)⟩,⟨aq1⟩,⟨aq0⟩⟩
      rw [if_pos c31] at H
      have c31b0:decide (0 < (x8_2.length:Int)) = true:=decide_eq_true c31
      have c31b1:decide (0 < x8_2.length) = true:=decide_eq_true o_m
      clear c31
      replace H:=gd H
      obtain ⟨c32,H⟩:=H
      have LMc32:=am c32
      clear c32
      obtain ⟨y112,hy112⟩:∃ y_:List (List Int),y_ = (x5_2 ++ [x8_2]):=⟨_,rfl⟩
      replace H:(impl_tray_strI.l0 k2 y112 t105 (t105.length:Int) (wrap64 (x16_1 + 1)) a0_0 a0_1 l0_2) = some r:=by first | (rw [hy112];with_reducible exact H) | (have H2_:=(Option.bind_some _ _).symm.trans H;rw [hy112];with_reducible exact H2_) | (have H2_:=(Option.bind_some _ _).symm.trans H;with_reducible exact H2_) | with_reducible exact H | (rw [hy112];exact H) | exact H
      have Ny112:=am hy112
      clear hy112
      have H':=am H
      clear H
      obtain ⟨Ao33,co33,eo33⟩:=Kd.R_slice HO_8.out
      subst eo33
      go_wp2_with (first | ((with_reducible refine gate_builtin (b:=.append) (xs:=#[.tmp 48,.tmp 50]) rfl ?_);at_builtin;refine Kd.S_append (Kd.slice 3 (Kd.int .i64)) (w0:=w) w.heap.size rfl (.tmp 48) (.tmp 50) 57 40 (.slice none 0 0) 24 rfl Tryz.underlying57 info40 rfl d_c o_m u5 x5_2 x8_2 [.slice Ao33 x8_2.length co33] (fun k_=>some k_ ≠ (.slice (some ad108) t105.length co9:Value).ownBlock) (fun k_=>some k_ = (.slice Ao33 x8_2.length co33:Value).ownBlock) rfl rfl ?aP (fun k_ hk_=>((Kd.R_mono (ok':=fun k_=>((fun k_=>some k_ ≠ (.slice (some ad108) t105.length co9:Value).ownBlock)) k_ ∧ some k_ ≠ (u5:Value).ownBlock) (Kd.R_apart' (Kd.R_apart' (HO_8.out) (Kd.S_typed HO_14.out) d_c) (Kd.S_typed HO_5.out) d_c) (fun k_ hk=>⟨hk.1.2,hk.2⟩))).1 k_ hk_.symm) ?aF ?aO ?aB ?aS ?aL ?_;(case aP=>exact aq69);(case aB=>exact aq0);(case aF=>exact (fun k_ hk=>Kd.fresh' (Kd.S_lt aq49) k_ hk));(case aO=>exact aq103);(case aS=>exact aq80);(case aL=>have:=LMc32.out;omega);intro v113 w34 ho hb hg hat;rw [← Ny112.out] at ho;replace HO_14:=am (Kd.S_after (ok:=(fun k_=>some k_ ≠ (.slice Ao33 x8_2.length co33:Value).ownBlock)) aq109 hg hat);replace BK101:=am (bg BK101 hg (Kd.S_ne HO_5.out BK101.out d_c));replace HB:=am (hb);have HO114:=am (ho);clear HO_5 HO_8 ho hb hg hat))
      go_roundg k2
      case measure=>have:=HK1.out;have:=HK2.out;omega
      case rel=>exact ⟨(y112),(wrap64 (x16_1 + 1)),aq7,H',⟨aq75⟩,⟨by (with_reducible repeat (first | apply Kd.S_alloc | apply Kd.S_drewN | apply Kd.S_drew));exact HO114.out⟩,⟨by (with_reducible repeat (first | apply Kd.S_alloc | apply Kd.S_drewN | apply Kd.S_drew));exact Kd.S_mono HO_14.out (fun _ hk=>hk.2)⟩,⟨aq1⟩,⟨aq0⟩⟩
     rw [if_pos c15] at H
     have c15b0:decide (x23_2 < ((rd_L3 t105 x16_1).length:Int)) = true:=decide_eq_true c15
     clear c15
     replace H:=gd H
     obtain ⟨c16,H⟩:=H
     have c16b0:decide (0 ≤ x23_2) = true:=decide_eq_true c16
     clear c16
     replace H:=gd H
     obtain ⟨c17,H⟩:=H
     have c17b0:decide (x23_2 < ((rd_L3 t105 x16_1).length:Int)) = true:=decide_eq_true c17
     clear c17
     replace H:=gd H
     obtain ⟨c18,H⟩:=H
     have c18b0:decide (0 ≤ (rd (rd_L3 t105 x16_1) x23_2)) = true:=decide_eq_true c18
     clear c18
     replace H:=gd H
     obtain ⟨c19,H⟩:=H
     have c19b0:decide ((rd (rd_L3 t105 x16_1) x23_2) < (l0_2.length:Int)) = true:=decide_eq_true c19
     clear c19
     by_cases c20:(rd l0_2 (rd (rd_L3 t105 x16_1) x23_2)) = 35
     rotate_left
     ·rw [if_neg c20] at H
      have c20b0:((rd l0_2 (rd (rd_L3 t105 x16_1) x23_2)) == 35) = false:=beq_eq_false_iff_ne.mpr c20
      have c20b1:((rd l0_2 (rd (rd_L3 t105 x16_1) x23_2)) != 35) = true:=bne_iff_ne.mpr c20
      replace H:=gd H
      obtain ⟨c28,H⟩:=H
      have LMc28:=am c28
      clear c28
      obtain ⟨y120,hy120⟩:∃ y_:List Int,y_ = (x8_2 ++ [rd (rd_L3 t105 x16_1) x23_2]):=⟨_,rfl⟩
      replace H:(impl_tray_strI.l1 k2 x5_2 y120 t105 (t105.length:Int) x16_1 (rd_L3 t105 x16_1) ((rd_L3 t105 x16_1).length:Int) (wrap64 (x23_2 + 1)) a0_0 a0_1 l0_2) = some r:=by first | (rw [hy120];with_reducible exact H) | (have H2_:=(Option.bind_some _ _).symm.trans H;rw [hy120];with_reducible exact H2_) | (have H2_:=(Option.bind_some _ _).symm.trans H;with_reducible exact H2_) | with_reducible exact H | (rw [hy120];exact H) | exact H
      have Ny120:=am hy120
      clear hy120
      have H':=am H
      clear H
      have p115:0 ≤ (x23_2:Int):=of_decide_eq_true aq4
      have q115:x23_2 < ((rd_L3 t105 x16_1).length:Int):=of_decide_eq_true aq4
      obtain ⟨ad115,e115,hx115_0⟩:=Kd.at_int (Kd.R_reads' HLq.out).2.2 x23_2 p115 q115
      cases e115
      try replace hx115_0:=(HB.out.cell (World.block_lt_of_cell? w _ hx115_0)).trans hx115_0
      replace p115:=eq_true p115
      replace q115:=eq_true q115
      have hcz29_0:wr.cell? ⟨gb101,0,none⟩ = some (.int .i64 a0_0):=(blk_cell BK101.out 0).trans rfl
      have hcz29_1:wr.cell? ⟨gb101,1,none⟩ = some (.int .i64 a0_1):=(blk_cell BK101.out 1).trans rfl
      have hcz29_2:wr.cell? ⟨gb101,2,none⟩ = some (.slice A0_2 l0_2.length c0_2):=(blk_cell BK101.out 2).trans rfl
      have hfz29_0:=blk_frozen BK101.out 0
      have hfz29_1:=blk_frozen BK101.out 1
      have hfz29_2:=blk_frozen BK101.out 2
      have p116:0 ≤ ((rd (rd_L3 t105 x16_1) x23_2):Int):=of_decide_eq_true aq4
      have q116:(rd (rd_L3 t105 x16_1) x23_2) < (l0_2.length:Int):=of_decide_eq_true aq4
      obtain ⟨ad116,e116,hx116_0⟩:=Kd.at_int HR0_2.out (rd (rd_L3 t105 x16_1) x23_2) p116 q116
      cases e116
      try replace hx116_0:=(HB.out.cell (World.block_lt_of_cell? w _ hx116_0)).trans hx116_0
      replace p116:=eq_true p116
      replace q116:=eq_true q116
      go_wp2_with (first | ((with_reducible refine gate_builtin (b:=.append) (xs:=#[.tmp 33,.tmp 35]) rfl ?_);at_builtin;refine Kd.R_append (Kd.int .i64) (w0:=w) w.heap.size rfl (.tmp 33) (.tmp 35) 40 3 (.int .i64 0) 8 rfl Tryz.underlying40 info3 rfl d_c o_m u8 x8_2 (rd (rd_L3 t105 x16_1) x23_2) [.int .i64 (rd (rd_L3 t105 x16_1) x23_2)] (fun _=>True) (fun _=>False) rfl rfl ?aP (fun _ hk=>hk.elim) ?aF ?aO ?aB ?aS ?aL ?_;(case aP=>exact rfl);(case aB=>exact aq0);(case aF=>exact aq89);(case aO=>exact aq25);(case aS=>exact aq80);(case aL=>have:=LMc28.out;omega);intro v121 w30 ho hb hg hat;rw [← Ny120.out] at ho;have n0_:=am (Kd.S_after (ok:=(fun k_=>some k_ ≠ (.slice (some ad108) t105.length co9:Value).ownBlock)) aq78 hg hat);have n1_:=am (Kd.S_after (ok:=(fun k_=>some k_ ≠ (u5:Value).ownBlock)) aq49 hg hat);have n2_:=am (bg BK101 hg (Kd.R_ne HO_8.out BK101.out d_c));have n3_:=am (hb);have n4_:=am (ho);clear HO_5;have nq_:=am (Kd.R_after (ok:=(fun k_=>some k_ ≠ (u5:Value).ownBlock)) HLq.out hg hat);clear HLq;have HLq:=nq_;clear nq_ HO_14 BK101 HB HO_8;have HO_5:=n0_;have HO_14:=n1_;have BK101:=n2_;have HB:=n3_;have HO122:=n4_;clear n0_ n1_ n2_ n3_ n4_ ho hb hg hat))
      go_roundg k2
      case measure=>have:=HK1.out;have:=HK2.out;omega
      case rel=>exact ⟨(x5_2),(y120),(wrap64 (x23_2 + 1)),aq7,H',⟨aq75⟩,⟨aq78⟩,⟨by (with_reducible repeat (first | apply Kd.R_alloc | apply Kd.R_drewN | apply Kd.R_drew));exact HO122.out⟩,⟨aq49⟩,⟨aq1⟩,⟨aq0⟩,⟨aq76⟩⟩
     rw [if_pos c20] at H
     have c20b0:((rd l0_2 (rd (rd_L3 t105 x16_1) x23_2)) == 35) = true:=beq_iff_eq.mpr c20
     have c20b1:((rd l0_2 (rd (rd_L3 t105 x16_1) x23_2)) != 35) = false:=bne_eq_false_iff_eq.mpr c20
     clear c20
     by_cases c21:(x8_2.length:Int) > 0
     rotate_left
     ·rw [if_neg c21] at H
      have c21b0:decide (0 < (x8_2.length:Int)) = false:=decide_eq_false c21
      have c21b1:decide (0 < x8_2.length) = false:=decide_eq_false o_m
      clear c21
      have H':=am H
      clear H
      have p115:0 ≤ (x23_2:Int):=of_decide_eq_true aq4
      have q115:x23_2 < ((rd_L3 t105 x16_1).length:Int):=of_decide_eq_true aq4
      obtain ⟨ad115,e115,hx115_0⟩:=Kd.at_int (Kd.R_reads' HLq.out).2.2 x23_2 p115 q115
      cases e115
      try replace hx115_0:=(HB.out.cell (World.block_lt_of_cell? w _ hx115_0)).trans hx115_0
      replace p115:=eq_true p115
      replace q115:=eq_true q115
      have hcz26_0:wr.cell? ⟨gb101,0,none⟩ = some (.int .i64 a0_0):=(blk_cell BK101.out 0).trans rfl
      have hcz26_1:wr.cell? ⟨gb101,1,none⟩ = some (.int .i64 a0_1):=(blk_cell BK101.out 1).trans rfl
      have hcz26_2:wr.cell? ⟨gb101,2,none⟩ = some (.slice A0_2 l0_2.length c0_2):=(blk_cell BK101.out 2).trans rfl
      have hfz26_0:=blk_frozen BK101.out 0
      have hfz26_1:=blk_frozen BK101.out 1
      have hfz26_2:=blk_frozen BK101.out 2
      have p116:0 ≤ ((rd (rd_L3 t105 x16_1) x23_2):Int):=of_decide_eq_true aq4
      have q116:(rd (rd_L3 t105 x16_1) x23_2) < (l0_2.length:Int):=of_decide_eq_true aq4
      obtain ⟨ad116,e116,hx116_0⟩:=Kd.at_int HR0_2.out (rd (rd_L3 t105 x16_1) x23_2) p116 q116
      cases e116
      try replace hx116_0:=(HB.out.cell (World.block_lt_of_cell? w _ hx116_0)).trans hx116_0
      replace p116:=eq_true p116
      replace q116:=eq_true q116
      obtain ⟨Ao27,co27,eo27⟩:=Kd.R_slice HO_8.out
      subst eo27
      go_wp2
      go_roundg k2
      case measure=>have:=HK1.out;have:=HK2.out;omega
      case rel=>exact ⟨(x5_2),(x8_2),(wrap64 (x23_2 + 1)),aq7,H',⟨aq75⟩,⟨aq28⟩,⟨aq25⟩,⟨aq49⟩,⟨aq1⟩,⟨aq0⟩,⟨aq76⟩⟩
     rw [if_pos c21] at H
     have c21b0:decide (0 < (x8_2.length:Int)) = true:=decide_eq_true c21
     have c21b1:decide (0 < x8_2.length) = true:=decide_eq_true o_m
     clear c21
     replace H:=gd H
     obtain ⟨c22,H⟩:=H
     have LMc22:=am c22
     clear c22
     obtain ⟨y117,hy117⟩:∃ y_:List (List Int),y_ = (x5_2 ++ [x8_2]):=⟨_,rfl⟩
     replace H:(impl_tray_strI.l1 k2 y117 ([]:List Int) t105 (t105.length:Int) x16_1 (rd_L3 t105 x16_1) ((rd_L3 t105 x16_1).length:Int) (wrap64 (x23_2 + 1)) a0_0 a0_1 l0_2) = some r:=by first | (rw [hy117];with_reducible exact H) | (have H2_:=(Option.bind_some _ _).symm.trans H;rw [hy117];with_reducible exact H2_) | (have H2_:=(Option.bind_some _ _).symm.trans H;with_reducible exact H2_) | with_reducible exact H | (rw [hy117];exact H) | exact H
     have Ny117:=am hy117
     clear hy117
     have H':=am H
     clear H
     have p115:0 ≤ (x23_2:Int):=of_decide_eq_true aq4
     have q115:x23_2 < ((rd_L3 t105 x16_1).length:Int):=of_decide_eq_true aq4
     obtain ⟨ad115,e115,hx115_0⟩:=Kd.at_int (Kd.R_reads' HLq.out).2.2 x23_2 p115 q115
     cases e115
     try replace hx115_0:=(HB.out.cell (World.block_lt_of_cell? w _ hx115_0)).trans hx115_0
     replace p115:=eq_true p115
     replace q115:=eq_true q115
     have hcz23_0:wr.cell? ⟨gb101,0,none⟩ = some (.int .i64 a0_0):=(blk_cell BK101.out 0).trans rfl
     have hcz23_1:wr.cell? ⟨gb101,1,none⟩ = some (.int .i64 a0_1):=(blk_cell BK101.out 1).trans rfl
     have hcz23_2:wr.cell? ⟨gb101,2,none⟩ = some (.slice A0_2 l0_2.length c0_2):=(blk_cell BK101.out 2).trans rfl
     have hfz23_0:=blk_frozen BK101.out 0
     have hfz23_1:=blk_frozen BK101.out 1
     have hfz23_2:=blk_frozen BK101.out 2
     have p116:0 ≤ ((rd (rd_L3 t105 x16_1) x23_2):Int):=of_decide_eq_true aq4
     have q116:(rd (rd_L3 t105 x16_1) x23_2) < (l0_2.length:Int):=of_decide_eq_true aq4
     obtain ⟨ad116,e116,hx116_0⟩:=Kd.at_int HR0_2.out (rd (rd_L3 t105 x16_1) x23_2) p116 q116
     cases e116
     try replace hx116_0:=(HB.out.cell (World.block_lt_of_cell? w _ hx116_0)).trans hx116_0
     replace p116:=eq_true p116
     replace q116:=eq_true q116
     obtain ⟨Ao24,co24,eo24⟩:=Kd.R_slice HO_8.out
     subst eo24
     go_wp2_with (first | ((with_reducible refine gate_builtin (b:=.append) (xs:=#[.tmp 40,.tmp 42]) rfl ?_);at_builtin;refine Kd.S_append (Kd.slice 3 (Kd.int .i64)) (w0:=w) w.heap.size rfl (.tmp 40) (.tmp 42) 57 40 (.slice none 0 0) 24 rfl Tryz.underlying57 info40 rfl d_c o_m u5 x5_2 x8_2 [.slice Ao24 x8_2.length co24] (fun k_=>some k_ ≠ (.slice (some ad108) t105.length co9:Value).ownBlock) (fun k_=>some k_ = (.slice Ao24 x8_2.length co24:Value).ownBlock) rfl rfl ?aP (fun k_ hk_=>((Kd.R_mono (ok':=fun k_=>((fun k_=>some k_ ≠ (.slice (some ad108) t105.length co9:Value).ownBlock)) k_ ∧ some k_ ≠ (u5:Value).ownBlock) (Kd.R_apart' (Kd.R_apart' (HO_8.out) (Kd.S_typed HO_14.out) d_c) (Kd.S_typed HO_5.out) d_c) (fun k_ hk=>⟨hk.1.2,hk.2⟩))).1 k_ hk_.symm) ?aF ?aO ?aB ?aS ?aL ?_;(case aP=>exact aq69);(case aB=>exact aq0);(case aF=>exact (fun k_ hk=>Kd.fresh' (Kd.S_lt aq49) k_ hk));(case aO=>exact aq103);(case aS=>exact aq80);(case aL=>have:=LMc22.out;omega);intro v118 w25 ho hb hg hat;rw [← Ny117.out] at ho;replace HLq:=am (Kd.R_after (ok:=(fun k_=>some k_ ≠ (.slice Ao24 x8_2.length co24:Value).ownBlock)) (Kd.R_mono HLq.out (fun _ hk=>⟨hk.2,hk.1⟩)) hg hat);replace HO_14:=am (Kd.S_after (ok:=(fun k_=>some k_ ≠ (.slice Ao24 x8_2.length co24:Value).ownBlock)) aq109 hg hat);replace BK101:=am (bg BK101 hg (Kd.S_ne HO_5.out BK101.out d_c));replace HB:=am (hb);have HO119:=am (ho);clear HO_5 HO_8 ho hb hg hat))
     go_roundg k2
     case measure=>have:=HK1.out;have:=HK2.out;omega
     case rel=>exact ⟨(y117),(([]:List Int)),(wrap64 (x23_2 + 1)),aq7,H',⟨aq75⟩,⟨by (with_reducible repeat (first | apply Kd.S_alloc | apply Kd.S_drewN | apply Kd.S_drew));exact Kd.S_mono HO119.out (fun _ hk=>⟨(by simp [Value.ownBlock]),hk⟩)⟩,⟨aq23⟩,⟨by (with_reducible repeat (first | apply Kd.S_alloc | apply Kd.S_drewN | apply Kd.S_drew));exact Kd.S_mono HO_14.out (fun _ hk=>⟨hk.2,(by simp [Value.ownBlock])⟩)⟩,⟨aq1⟩,⟨aq0⟩,⟨aq76⟩⟩
end Go.Proofs.YtldhkbiomingbaaGreatDoor.F

namespace Go.Proofs.YtldhkbiomingbaaGreatDoor
open Go.RowKit Go.YW.PrintWords Go.YW.PrintLast Go.YW.PrintMore Go.Lib Go.Proofs.YtldhkbiomingbaaGreatDoor.F
theorem rev_ev (l:List Int) (hl:l.length ≤ 7):Ev (fun k=>slices_Reverse_int_int.f k l) l.reverse:=by
 refine Ev.of (fun k=>slices_Reverse_int_int.mono _ _) (k:=6) ?_
 match l,hl with
 | [],_=>simp [slices_Reverse_int_int.f,slices_Reverse_int_int.l0,wrap64,rd]
 | [a],_=>simp [slices_Reverse_int_int.f,slices_Reverse_int_int.l0,wrap64,rd]
 | [a,b],_=>simp [slices_Reverse_int_int.f,slices_Reverse_int_int.l0,wrap64,rd]
 | [a,b,c],_=>simp [slices_Reverse_int_int.f,slices_Reverse_int_int.l0,wrap64,rd]
 | [a,b,c,d],_=>simp [slices_Reverse_int_int.f,slices_Reverse_int_int.l0,wrap64,rd]
 | [a,b,c,d,e],_=>simp [slices_Reverse_int_int.f,slices_Reverse_int_int.l0,wrap64,rd]
 | [a,b,c,d,e,f],_=>simp [slices_Reverse_int_int.f,slices_Reverse_int_int.l0,wrap64,rd]
 | [a,b,c,d,e,f,g],_=>simp [slices_Reverse_int_int.f,slices_Reverse_int_int.l0,wrap64,rd]
 | _ :: _ :: _ :: _ :: _ :: _ :: _ :: _ :: _,h=>exact absurd h (by simp)
theorem casts_rev (l:List Nat):(castsI l).reverse = castsI l.reverse:=by unfold castsI;rw [List.map_reverse]
theorem range_rev {α:Type} (f:Nat → α) (n:Nat):(List.range n).map (fun b=>f (n - 1 - b)) = ((List.range n).map f).reverse:=by
 apply List.ext_getElem
 ·simp
 ·intro i h1 h2
  simp [List.getElem_reverse]
theorem w100 (n:Nat) (h:n < 100):wrap64 (n:Int) = n:=w64 o_m o_m
def rawP (w d a b:Nat):Nat:=if d = 0 ∨ d = 2 then b * w + a else a * w + b
def rawL (w d a n:Nat):List Nat:=(List.range n).map (rawP w d a)
theorem rawL_succ (w d a n:Nat):rawL w d a (n + 1) = rawL w d a n ++ [rawP w d a n]:=by unfold rawL;rw [List.range_succ,List.map_append];rfl
theorem rawL_length (w d a n:Nat):(rawL w d a n).length = n:=by simp [rawL]
theorem raw_line {w h d a:Nat} (hd:d < 4):lineD w h d a = if d = 1 ∨ d = 2 then (rawL w d a (lnK w h d)).reverse else rawL w d a (lnK w h d):=by
 rcases dir4 hd with rfl | rfl | rfl | rfl
 ·rfl
 ·rw [if_pos (Or.inl rfl)];exact range_rev (rawP w 1 a) w
 ·rw [if_pos (Or.inr rfl)];exact range_rev (rawP w 2 a) h
 ·rfl
section
variable {w h d:Nat} {cs:List Int} (hw:1 ≤ w ∧ w ≤ 7) (hh:1 ≤ h ∧ h ≤ 7) (hd:d < 4)
include hw hh hd
omit hd in
theorem number_raw {a b:Nat} (ha:a < lnM w h d) (hb:b < lnK w h d):(if decide (d = 0 ∨ d = 2) = true then impl_tray_number.f w h cs a b else impl_tray_number.f w h cs b a) = some ((rawP w d a b:Nat):Int):=by
 have key:∀ x y:Nat,x < 8 → y < 8 → impl_tray_number.f w h cs x y = some ((y * w + x:Nat):Int):=fun x y hx hy=>by
  have h49:y * w ≤ 7 * 7:=Nat.mul_le_mul o_m hw.2
  have e1:(y:Int) * (w:Int) = ((y * w:Nat):Int):=by rw [Int.natCast_mul]
  have hb:y * w + x < 100:=by omega
  unfold impl_tray_number.f
  rw [e1,w100 (y * w) o_m,← Int.natCast_add,w100 _ hb]
 have hK:=lnK_le (d:=d) hw.2 hh.2
 have hM:lnM w h d ≤ 7:=by unfold lnM;split <;> omega
 unfold rawP
 by_cases hv:d = 0 ∨ d = 2
 rotate_left
 ·rw [if_neg (by simp only [decide_eq_true_eq];exact hv),if_neg hv,key b a o_m o_m]
 rw [if_pos (decide_eq_true hv),if_pos hv,key a b o_m o_m]
theorem lines_l1 (x5:List (List Int)) (hx:x5.length < 1000) (r:List (List Int)) {a:Nat} (ha:a < lnM w h d):∀ (n j:Nat),j + n = lnK w h d →
  Ev (fun k=>impl_tray_lines.l0 k (dirB d) (x5 ++ [castsI (lineD w h d a)]) (lnK w h d:Int) (lnM w h d:Int) ((a + 1:Nat):Int) w h cs) r →
  Ev (fun k=>impl_tray_lines.l1 k (dirB d) x5 (lnK w h d:Int) (a:Int) (castsI (rawL w d a j)) (lnM w h d:Int) (a:Int) (lnK w h d:Int) (j:Int) w h cs) r
 | 0,j,hj,hr=>by
  have hK:=lnK_le (d:=d) hw.2 hh.2
  have hM:lnM w h d ≤ 7:=by unfold lnM;split <;> omega
  obtain rfl:j = lnK w h d:=by omega
  have hrl:=raw_line (w:=w) (h:=h) (a:=a) hd
  have hrev:Ev (fun k=>slices_Reverse_int_int.f k (castsI (rawL w d a (lnK w h d)))) (castsI (rawL w d a (lnK w h d)).reverse):=by
   have:=rev_ev (castsI (rawL w d a (lnK w h d))) (by rw [castsI_length,rawL_length];exact hK)
   rwa [casts_rev] at this
  have HW:Aside0 (wrap64 ((a:Int) + 1) = ((a + 1:Nat):Int)):=⟨by rw [w64 o_m o_m];rfl⟩
  have hlen:x5.length < 5864062014805:=by omega
  rcases dir4 hd with rfl | rfl | rfl | rfl
  ·rw [if_neg d_c] at hrl
   rw [hrl] at hr
   refine Ev.step (fun k=>?_) hr
   rw [impl_tray_lines.l1,if_neg o_m,if_neg d_c,if_neg d_c,if_pos hlen,HW.out]
  ·rw [if_pos d_c] at hrl
   rw [hrl] at hr
   refine Ev.step (fun k=>?_) (Ev.bind hrev (f:=fun k t=>impl_tray_lines.l0 k (dirB 1) (x5 ++ [t]) (lnK w h 1:Int) (lnM w h 1:Int) ((a + 1:Nat):Int) w h cs) hr)
   rw [impl_tray_lines.l1,if_neg o_m,if_pos (by rfl),HW.out]
   simp only [if_pos hlen]
  ·rw [if_pos d_c] at hrl
   rw [hrl] at hr
   refine Ev.step (fun k=>?_) (Ev.bind hrev (f:=fun k t=>impl_tray_lines.l0 k (dirB 2) (x5 ++ [t]) (lnK w h 2:Int) (lnM w h 2:Int) ((a + 1:Nat):Int) w h cs) hr)
   rw [impl_tray_lines.l1,if_neg o_m,if_neg d_c,if_pos (by rfl),HW.out]
   simp only [if_pos hlen]
  ·rw [if_neg d_c] at hrl
   rw [hrl] at hr
   refine Ev.step (fun k=>?_) hr
   rw [impl_tray_lines.l1,if_neg o_m,if_neg d_c,if_neg d_c,if_pos hlen,HW.out]
 | n + 1,j,hj,hr=>by
  have hK:=lnK_le (d:=d) hw.2 hh.2
  have hjK:j < lnK w h d:=by omega
  have ih:=lines_l1 x5 hx r ha n (j + 1) o_m hr
  have hnum:=number_raw (cs:=cs) hw hh ha hjK
  have HW:Aside0 (wrap64 ((j:Int) + 1) = ((j + 1:Nat):Int)):=⟨by rw [w64 o_m o_m];rfl⟩
  have hlen:(castsI (rawL w d a j)).length < 17592186044416:=by rw [castsI_length,rawL_length];omega
  have h1:∀ k,impl_tray_lines.l1 (k + 1) (dirB d) x5 (lnK w h d:Int) (a:Int) (castsI (rawL w d a j)) (lnM w h d:Int) (a:Int) (lnK w h d:Int) (j:Int) w h cs = impl_tray_lines.j4 k (dirB d) x5 (lnK w h d:Int) (a:Int) (castsI (rawL w d a j)) (j:Int) (lnM w h d:Int) (a:Int) (lnK w h d:Int) (j:Int) (decide (d = 0 ∨ d = 2)) w h cs:=fun k=>by
   rw [impl_tray_lines.l1,if_pos o_m]
   rcases dir4 hd with rfl | rfl | rfl | rfl
   ·rw [if_pos (by rfl)];rfl
   ·rw [if_neg d_c];rfl
   ·rw [if_neg d_c];rfl
   ·rw [if_neg d_c];rfl
  refine Ev.step h1 (Ev.step (fun k=>?_) ih)
  rw [rawL_succ,casts_app,casts_one,impl_tray_lines.j4]
  by_cases hv:decide (d = 0 ∨ d = 2) = true
  rotate_left
  ·rw [if_neg hv] at hnum ⊢
   rw [hnum,Option.bind_some,if_pos hlen,HW.out]
  rw [if_pos hv] at hnum ⊢
  rw [hnum,Option.bind_some,if_pos hlen,HW.out]
theorem lines_l0:∀ (n a:Nat),a + n = lnM w h d → Ev (fun k=>impl_tray_lines.l0 k (dirB d) (((List.range a).map (lineD w h d)).map castsI) (lnK w h d:Int) (lnM w h d:Int) (a:Int) w h cs) ((linesD w h d).map castsI)
 | 0,a,ha=>by
  obtain rfl:a = lnM w h d:=by omega
  exact Ev.step (fun k=>by rw [impl_tray_lines.l0,if_neg o_m];rfl) (Ev.now _)
 | n + 1,a,ha=>by
  have hM:lnM w h d ≤ 7:=by unfold lnM;split <;> omega
  have ih:=lines_l0 n (a + 1) o_m
  rw [List.range_succ,List.map_append,List.map_append] at ih
  have:=lines_l1 (cs:=cs) hw hh hd (((List.range a).map (lineD w h d)).map castsI) (by simp;omega) _ (show a < lnM w h d by omega) (lnK w h d) 0 o_m ih
  exact Ev.step (fun k=>by rw [impl_tray_lines.l0,if_pos o_m];rfl) this
theorem lines_ev:Ev (fun k=>impl_tray_lines.f k w h cs (dirB d)) ((linesD w h d).map castsI):=by
 have h0:=lines_l0 (cs:=cs) hw hh hd (lnM w h d) 0 o_m
 rcases dir4 hd with rfl | rfl | rfl | rfl
 ·exact Ev.congr (fun k=>rfl) (Ev.step (g:=fun k=>impl_tray_lines.j0 k 117 [] h w true w h cs) (f:=fun k=>impl_tray_lines.j1 k 117 [] w h w h cs) (fun k=>rfl) (Ev.step (fun k=>rfl) h0))
 ·exact Ev.congr (fun k=>rfl) (Ev.step (g:=fun k=>impl_tray_lines.j0 k 114 [] h w false w h cs) (f:=fun k=>impl_tray_lines.j1 k 114 [] h w w h cs) (fun k=>rfl) (Ev.step (fun k=>rfl) h0))
 ·exact Ev.congr (fun k=>rfl) (Ev.step (g:=fun k=>impl_tray_lines.j0 k 100 [] h w true w h cs) (f:=fun k=>impl_tray_lines.j1 k 100 [] w h w h cs) (fun k=>rfl) (Ev.step (fun k=>rfl) h0))
 ·exact Ev.congr (fun k=>rfl) (Ev.step (g:=fun k=>impl_tray_lines.j0 k 108 [] h w false w h cs) (f:=fun k=>impl_tray_lines.j1 k 108 [] h w w h cs) (fun k=>rfl) (Ev.step (fun k=>rfl) h0))
end
theorem open_rd {cs:List Int} {x:Nat}:openAt cs x = true ↔ ¬ rd cs (x:Int) = 35:=by
 unfold openAt isOpenC rd
 rw [Int.toNat_natCast];simp
theorem runs_l1 {w h:Nat} {cs:List Int} (LL:List (List Int)) (a:Nat) (ha:a < 1000) (r:List (List Int)) (L:List Nat) (hL:L.length < 1000) (hlt:∀ x ∈ L,x < cs.length):∀ (n j:Nat) (out:List (List Nat)) (own:List Nat),j + n = L.length → out.length + n < 100000 → own.length ≤ j →
  Ev (fun k=>impl_tray_strI.l0 k ((out ++ runsF (openAt cs) own (L.drop j)).map castsI) LL (LL.length:Int) ((a + 1:Nat):Int) w h cs) r →
  Ev (fun k=>impl_tray_strI.l1 k (out.map castsI) (castsI own) LL (LL.length:Int) (a:Int) (castsI L) (L.length:Int) (j:Int) w h cs) r
 | 0,j,out,own,hj,ho,hown,hr=>by
  have HW:Aside0 (wrap64 ((a:Int) + 1) = ((a + 1:Nat):Int)):=⟨by rw [w64 o_m o_m];rfl⟩
  rw [List.drop_eq_nil_of_le o_m] at hr
  unfold runsF at hr
  refine Ev.step (fun k=>?_) hr
  rw [impl_tray_strI.l1,if_neg o_m,castsI_length,HW.out]
  by_cases h0:own = []
  ·rw [if_pos h0,if_neg (by rw [h0];decide),List.append_nil]
  have:0 < own.length:=List.length_pos_iff.2 h0
  rw [if_neg h0,if_pos o_m,if_pos (by simp;omega),List.map_append];rfl
 | n + 1,j,out,own,hj,ho,hown,hr=>by
  have hjl:j < L.length:=by omega
  have HW:Aside0 (wrap64 ((j:Int) + 1) = ((j + 1:Nat):Int)):=⟨by rw [w64 o_m o_m];rfl⟩
  have hx:=hlt _ (List.getElem_mem hjl)
  rw [List.drop_eq_getElem_cons hjl] at hr
  have hrd:=rd_cast L j hjl
  have hop:=open_rd (cs:=cs) (x:=L[j]'hjl)
  generalize L[j]'hjl = x at *
  unfold runsF at hr
  have hs:∀ k,impl_tray_strI.l1 (k + 1) (out.map castsI) (castsI own) LL (LL.length:Int) (a:Int) (castsI L) (L.length:Int) (j:Int) w h cs =
    if rd cs (x:Int) = 35 then (if own = [] then impl_tray_strI.l1 k (out.map castsI) (castsI []) LL (LL.length:Int) (a:Int) (castsI L) (L.length:Int) ((j + 1:Nat):Int) w h cs else impl_tray_strI.l1 k ((out ++ [own]).map castsI) (castsI []) LL (LL.length:Int) (a:Int) (castsI L) (L.length:Int) ((j + 1:Nat):Int) w h cs)
    else impl_tray_strI.l1 k (out.map castsI) (castsI (own ++ [x])) LL (LL.length:Int) (a:Int) (castsI L) (L.length:Int) ((j + 1:Nat):Int) w h cs:=fun k=>by
   rw [impl_tray_strI.l1,if_pos o_m,if_pos o_m,castsI_length,if_pos o_m,hrd,if_pos o_m,if_pos o_m,HW.out,castsI_length]
   by_cases h35:rd cs (x:Int) = 35
   rotate_left
   ·rw [if_neg h35,if_neg h35,if_pos o_m,casts_app,casts_one]
   rw [if_pos h35,if_pos h35]
   by_cases h0:own = []
   ·rw [if_neg (by rw [h0];decide),if_pos h0,h0]
   have:0 < own.length:=List.length_pos_iff.2 h0
   rw [if_neg h0,if_pos o_m,if_pos (by simp;omega),List.map_append];rfl
  refine Ev.step hs ?_
  by_cases h35:rd cs (x:Int) = 35
  rotate_left
  ·rw [if_pos (hop.2 h35)] at hr
   exact Ev.congr (fun k=>if_neg h35) (runs_l1 LL a ha r L hL hlt n (j + 1) out (own ++ [x]) o_m o_m (by simp;omega) hr)
  have hop':¬ openAt cs x = true:=fun e=>hop.1 e h35
  rw [if_neg hop'] at hr
  refine Ev.congr (fun k=>if_pos h35) ?_
  by_cases h0:own = []
  ·rw [if_pos h0] at hr
   exact Ev.congr (fun k=>if_pos h0) (runs_l1 LL a ha r L hL hlt n (j + 1) out [] o_m o_m (by simp) hr)
  rw [if_neg h0] at hr
  refine Ev.congr (fun k=>if_neg h0) (runs_l1 LL a ha r L hL hlt n (j + 1) (out ++ [own]) [] o_m (by simp;omega) (by simp) ?_)
  rw [List.append_assoc];exact hr
theorem runsF_len (p:Nat → Bool):∀ (l own:List Nat),(runsF p own l).length ≤ l.length + 1
 | [],own=>by unfold runsF;split <;> simp
 | k :: l,own=>by
  have h1:=runsF_len p l (own ++ [k])
  have h2:=runsF_len p l []
  unfold runsF
  split
  ·simp;omega
  ·split
   ·simp;omega
   ·simp;omega
theorem runs_l0 {w h:Nat} {cs:List Int} (S:List (List Nat)) (hS:S.length < 1000) (hall:∀ L ∈ S,L.length < 10 ∧ ∀ x ∈ L,x < cs.length):∀ (n a:Nat) (out:List (List Nat)),a + n = S.length → out.length ≤ 20 * a →
  Ev (fun k=>impl_tray_strI.l0 k (out.map castsI) (S.map castsI) ((S.map castsI).length:Int) (a:Int) w h cs) ((out ++ (S.drop a).flatMap (runsF (openAt cs) [])).map castsI)
 | 0,a,out,ha,ho=>by
  rw [List.drop_eq_nil_of_le o_m]
  refine Ev.step (fun k=>by rw [impl_tray_strI.l0,if_neg (by simp;omega)]) (Ev.congr (fun k=>?_) (Ev.now _))
  rw [List.flatMap_nil,List.append_nil]
 | n + 1,a,out,ha,ho=>by
  have hal:a < S.length:=by omega
  obtain ⟨q1,q2⟩:=hall _ (List.getElem_mem hal)
  have hrow:=rows_at S a hal
  have hd:=List.drop_eq_getElem_cons hal
  rw [hd,List.flatMap_cons,← List.append_assoc]
  have hl:=runsF_len (openAt cs) (S[a]'hal) []
  have ih:=runs_l0 (w:=w) (h:=h) S hS hall n (a + 1) (out ++ runsF (openAt cs) [] (S[a]'hal)) o_m (by simp;omega)
  have:=runs_l1 (w:=w) (h:=h) (S.map castsI) a o_m _ (S[a]'hal) o_m q2 (S[a]'hal).length 0 out [] o_m o_m (by simp) (by rw [List.drop_zero];exact ih)
  refine Ev.step (fun k=>?_) this
  rw [impl_tray_strI.l0,if_pos (by simp;omega),if_pos o_m,if_pos (by simp;omega),hrow,castsI_length];rfl
section
variable {w h d:Nat} {cs:List Int} (hw:1 ≤ w ∧ w ≤ 7) (hh:1 ≤ h ∧ h ≤ 7) (hl:cs.length = w * h) (hd:d < 4)
include hw hh hl hd
theorem strI_ev:Ev (fun k=>impl_tray_strI.f k w h cs (dirB d)) ((strI w h d cs).map castsI):=by
 have hM:lnM w h d ≤ 7:=by unfold lnM;split <;> omega
 have hK:=lnK_le (d:=d) hw.2 hh.2
 refine Ev.bind (lines_ev (cs:=cs) hw hh hd) ?_
 have:=runs_l0 (w:=w) (h:=h) (cs:=cs) (linesD w h d) (by simp [linesD];omega) (fun L hL=>?_) (linesD w h d).length 0 [] o_m (by simp)
 ·exact this
 ·obtain ⟨a,ha,rfl⟩:=List.mem_map.1 hL
  exact ⟨by rw [lineD_length];omega,fun x hx=>by rw [hl];exact (mem_lines hd).1 (List.mem_flatten.2 ⟨_,hL,hx⟩)⟩
end
theorem foldl_cast:∀ (l:List Nat) (m:Nat),(castsI l).foldl min (m:Int) = ((l.foldl Nat.min m:Nat):Int)
 | [],m=>rfl
 | a :: l,m=>by
  show (castsI l).foldl min (min (m:Int) (a:Int)) = _
  have e:min (m:Int) (a:Int) = ((Nat.min m a:Nat):Int):=by
   rcases Nat.le_total m a with h | h
   ·rw [show Nat.min m a = m from Nat.min_eq_left h];omega
   ·rw [show Nat.min m a = a from Nat.min_eq_right h];omega
  rw [e,foldl_cast l];rfl
theorem minOf_casts {l:List Nat} (hne:l ≠ []):Lib.minOf (castsI l) = ((leastL l:Nat):Int):=by
 cases l with
 | nil=>exact absurd rfl hne
 | cons a l =>
  show (castsI (a :: l)).foldl min ((a:Nat):Int) = _
  rw [foldl_cast,List.foldl_cons,show Nat.min a a = a from Nat.min_self a];rfl
theorem nat_casts (l:List Nat):(castsI l).map Int.toNat = l:=by
 unfold castsI
 rw [List.map_map]
 exact (List.map_congr_left fun x _=>rfl).trans (List.map_id l)
theorem sorted_back {S:List (List Nat)} (hne:∀ st ∈ S,st ≠ []) {ys:List (List Int)} (hp:ys.Perm (S.map castsI)) (hs:ys.Pairwise fun a b=>Lib.minOf a ≤ Lib.minOf b) :
  ∃ T:List (List Nat),ys = T.map castsI ∧ T.Perm S ∧ T.Pairwise fun a b=>leastL a ≤ leastL b:=by
 have hT:(ys.map fun y=>y.map Int.toNat).Perm S:=by
  refine (hp.map _).trans (List.Perm.of_eq ?_)
  rw [List.map_map]
  exact (List.map_congr_left fun x _=>nat_casts x).trans (List.map_id S)
 have hY:ys = (ys.map fun y=>y.map Int.toNat).map castsI:=by
  rw [List.map_map]
  refine ((List.map_congr_left fun y hy=>?_).trans (List.map_id ys)).symm
  obtain ⟨l,hl,rfl⟩:=List.mem_map.1 (hp.mem_iff.1 hy)
  show castsI ((castsI l).map Int.toNat) = _
  rw [nat_casts];rfl
 refine ⟨_,hY,hT,?_⟩
 rw [hY,List.pairwise_map] at hs
 refine List.Pairwise.imp_of_mem (fun {a b} ha hb hab=>?_) hs
 rw [minOf_casts (hne a (hT.mem_iff.1 ha)),minOf_casts (hne b (hT.mem_iff.1 hb))] at hab
 omega
end Go.Proofs.YtldhkbiomingbaaGreatDoor

namespace Go.Proofs.YtldhkbiomingbaaGreatDoor
open Go.RowKit Go.YW.PrintWords Go.YW.PrintLast Go.YW.PrintMore Go.Lib Go.Shelf Go.Proofs.YtldhkbiomingbaaGreatDoor.F Go.Maps
attribute [local go_sem] max2_int min2_int
theorem set3_cell {w:World} {b b':Nat} (h:b ≠ b') (u0 u1 u2:Value) (j:Nat) {v:Value} (hc:w.cell? ⟨b,j,none⟩ = some v):(((w.setCell ⟨b',0,none⟩ u0).setCell ⟨b',1,none⟩ u1).setCell ⟨b',2,none⟩ u2).cell? ⟨b,j,none⟩ = some v:=by
 have ne:∀ k,(⟨b',k,none⟩:Addr) ≠ ⟨b,j,none⟩:=fun k e=>by injection e with e;exact h e.symm
 rw [World.cell?_setCell_other _ _ _ _ (by first | exact ne 2 | exact (ne 2).symm),World.cell?_setCell_other _ _ _ _ (by first | exact ne 1 | exact (ne 1).symm),World.cell?_setCell_other _ _ _ _ (by first | exact ne 0 | exact (ne 0).symm)]
 exact hc
theorem R_set3 {w:World} {base:Nat} {v:Value} {xs:List Int} {b:Nat} (h:Kd.R (Kd.int .u8) 5 w base (fun _=>True) v xs) (hb:b < base) (u0 u1 u2:Value):Kd.R (Kd.int .u8) 5 (((w.setCell ⟨b,0,none⟩ u0).setCell ⟨b,1,none⟩ u1).setCell ⟨b,2,none⟩ u2) base (fun _=>True) v xs:=by
 have h1:=Kd.R_mono (Kd.R_bound h) (ok':=fun k=>k ≠ b) (fun k hk=>by have:=hk.2.1;omega)
 exact Kd.R_mono (Kd.R_far (p:=⟨b,2,none⟩) (Kd.R_far (p:=⟨b,1,none⟩) (Kd.R_far (p:=⟨b,0,none⟩) h1 (fun _ hk=>hk) u0) (fun _ hk=>hk) u1) (fun _ hk=>hk) u2) (fun _ _=>trivial)
theorem tilted_calls (a0 a1 dir:Int) (A2:Option Addr) (c2:Nat) (l2:List Int) (m:List (Nat × Nat)) (w:World) (hr2:Kd.C (Kd.int .u8) w A2 l2.length l2) (hc2:l2.length ≤ c2)
  (hl:0 < l2.length ∧ l2.length < 65536) (hn:(m.map Prod.fst).Nodup) (hs:(m.map Prod.snd).Nodup) (hlt:∀ p ∈ m,p.1 < l2.length ∧ p.2 < l2.length)
  (hcall:∀ W,Below w.heap.size w W → Calls Tryz.prog 125 #[.agg #[.int .i64 a0,.int .i64 a1,.slice A2 l2.length c2],.int .u8 dir] W fun e w'=>∃ b,e = .returned (.map (some b)) ∧ W.heap.size ≤ b ∧ MapAt w' b m ∧ Below W.heap.size W w') :
  Calls Tryz.prog 103 #[.agg #[.int .i64 a0,.int .i64 a1,.slice A2 l2.length c2],.int .u8 dir] w fun e w'=>∃ v2_:Value,e = .returned (.agg #[.int .i64 a0,.int .i64 a1,v2_]) ∧ Kd.R (Kd.int .u8) 5 w' w.heap.size (fun _=>True) v2_ (putAll l2 (wallsL l2) m) ∧ Below w.heap.size w w':=by
 have HR:=am hr2
 have HC:=am hc2
 have HL:=am hl
 have HN:=am (And.intro hn (And.intro hs hlt))
 have HB:=am (Below.refl w.heap.size w)
 have HCALL:=am hcall
 clear hr2 hc2 hl hn hs hlt hcall
 go_enter Tryz.func103,Tryz.ntmps103
 go_wp2_with (first
  | (refine bx 2 #[.int .i64 a0,.int .i64 a1,.slice A2 l2.length c2] 65 ?_;intro b1 hg1 w3 hbox1 hb1;have L0:=am (blk_lt hbox1);have G1:=am hg1;have X1:=am hbox1;have B1:=am hb1;clear hg1 hbox1 hb1)
  | (refine bx 4 #[.int .i64 0,.int .i64 0,.slice none 0 0] 65 ?_;intro b2 hg2 w4 hbox2 hb2;have G2:=am hg2;have X2:=am hbox2;have B2:=am (below_step B1.out hb2);have n1:=am (blk_below X1.out hb2);clear X1;have X1:=n1;clear n1 hg2 hbox2 hb2))
 have z10:w4.cell? ⟨b1,0,none⟩ = some (.int .i64 a0):=(blk_cell X1.out 0).trans rfl
 have z11:w4.cell? ⟨b1,1,none⟩ = some (.int .i64 a1):=(blk_cell X1.out 1).trans rfl
 have z12:w4.cell? ⟨b1,2,none⟩ = some (.slice A2 l2.length c2):=(blk_cell X1.out 2).trans rfl
 have L1:=am (blk_lt X1.out)
 have hb12:b1 ≠ b2:=by have h1:=L0.out;have h2:=G2.out;omega
 have HSL:=fun W (h:Below w.heap.size w W)=>HCALL.out W h
 go_region_held3 (fun w'=>w'.cell? ⟨b1,0,none⟩ = some (.int .i64 a0) ∧ w'.cell? ⟨b1,1,none⟩ = some (.int .i64 a1) ∧ w'.cell? ⟨b1,2,none⟩ = some (.slice A2 l2.length c2)) (first | go_keep | exact ⟨y10,y11,y12⟩ | exact ⟨x10,x11,x12⟩ | exact ⟨set3_cell hb12 _ _ _ 0 x10,set3_cell hb12 _ _ _ 1 x11,set3_cell hb12 _ _ _ 2 x12⟩)
  ((first
   | (go_simp;go_at_call 125;refine (HSL _ (below_drew1 B2.out)).mono ?_;rintro e w5 ⟨b,rfl,hb0,hm,hb⟩;have Y5:=blk_below (w:=w4.drew) X1.out hb;have y10:w5.cell? ⟨b1,0,none⟩ = some (.int .i64 a0):=(blk_cell Y5 0).trans rfl;have y11:w5.cell? ⟨b1,1,none⟩ = some (.int .i64 a1):=(blk_cell Y5 1).trans rfl;have y12:w5.cell? ⟨b1,2,none⟩ = some (.slice A2 l2.length c2):=(blk_cell Y5 2).trans rfl;have B5:=am (below_step (below_drew1 B2.out) hb);have M5:=am hm;have X5:=am (blk_below (w:=w4.drew) X2.out hb);have Y6:=am Y5;clear hb0 hm hb Y5)
   | (go_simp;go_at_call 124;refine (impl_tray_carried.calls a0 a1 A2 c2 l2 b m _ (Kd.C_below HR.out B5.out) HC.out HL.out M5.out HN.out.1 HN.out.2.1 HN.out.2.2).mono ?_;rintro e w6 ⟨v,rfl,ho,hb⟩;obtain ⟨Ao,co,rfl⟩:=Kd.R_slice ho;have HO:=am ho;have B6:=am (below_step B5.out hb);have X6:=am (blk_below X5.out hb);have Z6:=blk_below Y6.out hb;have x10:w6.cell? ⟨b1,0,none⟩ = some (.int .i64 a0):=(blk_cell Z6 0).trans rfl;have x11:w6.cell? ⟨b1,1,none⟩ = some (.int .i64 a1):=(blk_cell Z6 1).trans rfl;have x12:w6.cell? ⟨b1,2,none⟩ = some (.slice A2 l2.length c2):=(blk_cell Z6 2).trans rfl;have d0:w6.cell? ⟨b2,0,none⟩ = some (.int .i64 0):=(blk_cell X6.out 0).trans rfl;have d1:w6.cell? ⟨b2,1,none⟩ = some (.int .i64 0):=(blk_cell X6.out 1).trans rfl;have d2:w6.cell? ⟨b2,2,none⟩ = some (.slice none 0 0):=(blk_cell X6.out 2).trans rfl;have f0:=blk_frozen X6.out 0;have f1:=blk_frozen X6.out 1;have f2:=blk_frozen X6.out 2;clear ho hb Z6)))
 obtain ⟨n,hn⟩:∃ n,(putAll l2 (wallsL l2) m).length = n:=⟨_,rfl⟩
 have h2w:w.heap.size ≤ b2:=by rw [G2.out];exact B1.out.size
 try simp only [hn]
 go_wp2
 have hb25:b2 < w5.heap.size:=blk_lt X5.out
 refine bodyPost_ret (results_cell_row rfl _ _ b2 65 #[.int .i64 a0,.int .i64 a1,.slice Ao n co] (0,0) _ rfl (by exact blk_put (blk_put (blk_put X6.out 0 (.int .i64 a0) rfl) 1 (.int .i64 a1) rfl) 2 (.slice Ao n co) rfl) Tryz.underlying65 rfl k_r) rfl ?_
 refine ⟨.slice Ao n co,rfl,?_,((B6.out.setCell (p:=⟨b2,0,none⟩) h2w _).setCell (p:=⟨b2,1,none⟩) h2w _).setCell (p:=⟨b2,2,none⟩) h2w _⟩
 have hO:=HO.out
 rw [hn] at hO
 exact Kd.R_lower (R_set3 hO hb25 _ _ _) B5.out.size
end Go.Proofs.YtldhkbiomingbaaGreatDoor

namespace Go.Proofs.YtldhkbiomingbaaGreatDoor
open Go.RowKit Go.YW.PrintWords Go.YW.PrintLast Go.YW.PrintMore Go.Lib Go.Proofs.YtldhkbiomingbaaGreatDoor.F
theorem stretches_calls {w h d:Nat} {cs:List Int} (hw:1 ≤ w ∧ w ≤ 7) (hh:1 ≤ h ∧ h ≤ 7) (hl:cs.length = w * h) (hd:d < 4) (A2:Option Addr) (c2:Nat) (W:World) (hr2:Kd.C (Kd.int .u8) W A2 cs.length cs) (hc2:cs.length ≤ c2) :
  Calls Tryz.prog 172 #[.agg #[.int .i64 w,.int .i64 h,.slice A2 cs.length c2],.int .u8 (dirB d)] W fun e w'=>∃ v,e = .returned v ∧ Kd.R (Kd.slice 3 (Kd.int .i64)) 40 w' W.heap.size (fun _=>True) v ((strD w h d cs).map castsI) ∧ Below W.heap.size W w':=by
 obtain ⟨k,hk⟩:=Ev.rounds (strI_ev hw hh hl hd)
 have hp:=strD_perm hd cs (w:=w) (h:=h)
 obtain ⟨f1,f2,f3,f4,f5⟩:=strD_facts hw hh hl hd
 have hne:=strI_ne (w:=w) (h:=h) (d:=d) (cs:=cs)
 have hml:∀ st ∈ strI w h d cs,Lib.minOf (castsI st) = ((leastL st:Nat):Int) ∧ leastL st < 65536:=fun st hs=>by
  have h1:=f2 st (hp.mem_iff.2 hs) _ (leastL_mem (hne st hs))
  have h2:=f1.2
  exact ⟨minOf_casts (hne st hs),by omega⟩
 refine (impl_tray_strI.calls k w h A2 c2 cs (dirB d) _ W hr2 hc2 (fun x hx=>?_) (by rw [List.length_map,← hp.length_eq];exact f4) (fun x hx=>?_) hk).mono ?_
 ·obtain ⟨st,hs,rfl⟩:=List.mem_map.1 hx
  intro e
  have:=hne st hs
  unfold castsI at e
  exact this (List.map_eq_nil_iff.1 e)
 ·obtain ⟨st,hs,rfl⟩:=List.mem_map.1 hx
  obtain ⟨h1,h2⟩:=hml st hs
  rw [h1];omega
 ·rintro e w' ⟨v,rfl,⟨ys,hp',hs',hR⟩,hb⟩
  obtain ⟨T,rfl,hT,hsT⟩:=sorted_back hne hp' hs'
  rw [strD_of hd hT hsT] at hR
  exact ⟨v,rfl,hR,hb⟩
def impl_tray_tilted.f (a0 a1:Int) (l:List Int) (c:Int):Option (Int × Int × List Int):=if gridI a0 a1 l ∧ isDirC c = true then some (a0,a1,tiltD a0.toNat a1.toNat (dirIx c).toNat l) else none
theorem impl_tilted_eq {w h:Nat} {cs:List Int} {c:Int} (hw:1 ≤ w ∧ w ≤ 7) (hh:1 ≤ h ∧ h ≤ 7) (hl:cs.length = w * h) (hc:isDirC c = true):impl_tray_tilted.f w h cs c = some ((w:Int),(h:Int),tiltD w h (dirIx c).toNat cs):=if_pos ⟨gridI_nat hw hh hl,hc⟩
theorem slide_calls {w h d:Nat} {cs:List Int} (hw:1 ≤ w ∧ w ≤ 7) (hh:1 ≤ h ∧ h ≤ 7) (hl:cs.length = w * h) (hd:d < 4) (A2:Option Addr) (c2:Nat) (W:World) (hr2:Kd.C (Kd.int .u8) W A2 cs.length cs) (hc2:cs.length ≤ c2) :
  Calls Tryz.prog 125 #[.agg #[.int .i64 w,.int .i64 h,.slice A2 cs.length c2],.int .u8 (dirB d)] W fun e w'=>∃ b,e = .returned (.map (some b)) ∧ W.heap.size ≤ b ∧ MapAt w' b (mvD w h d cs) ∧ Below W.heap.size W w':=by
 obtain ⟨f1,f2,f3,f4,f5⟩:=strD_facts hw hh hl hd
 exact impl_tray_slide.calls w h (dirB d) A2 c2 cs (strD w h d cs) W hr2 hc2 f1 f2 f3 f4 f5 fun W' hW=>stretches_calls hw hh hl hd A2 c2 W' (Kd.C_below hr2 hW) hc2
theorem impl_tray_tilted.calls (a0_0 a0_1:Int) (A0_2:Option Addr) (c0_2:Nat) (l0_2:List Int) (a1:Int) (r1 r2:Int) (r3:List Int) (w:World) (hr0_2:Kd.C (Kd.int .u8) w A0_2 l0_2.length l0_2) (hc0_2:l0_2.length ≤ c0_2) (h:impl_tray_tilted.f a0_0 a0_1 l0_2 a1 = some (r1,r2,r3)) :
  Calls Tryz.prog 103 #[.agg #[.int .i64 a0_0,.int .i64 a0_1,.slice A0_2 l0_2.length c0_2],.int .u8 a1] w fun e w'=>∃ v2_:Value,e = .returned (.agg #[.int .i64 r1,.int .i64 r2,v2_]) ∧ Kd.R (Kd.int .u8) 5 w' w.heap.size (fun _=>True) v2_ r3 ∧ Below w.heap.size w w':=by
 unfold impl_tray_tilted.f at h
 split at h
 case isFalse=>cases h
 rename_i hc
 obtain ⟨⟨hw,hh,hl⟩,hdir⟩:=hc
 injection h with h
 injection h with h1 h
 injection h with h2 h3
 subst h1 h2 h3
 obtain ⟨W,rfl⟩:∃ n:Nat,a0_0 = n:=⟨a0_0.toNat,by omega⟩
 obtain ⟨H,rfl⟩:∃ n:Nat,a0_1 = n:=⟨a0_1.toNat,by omega⟩
 obtain ⟨e1,hd',_⟩:=dirB_ix hdir
 generalize (dirIx a1).toNat = d at *
 subst e1
 simp only [Int.toNat_natCast] at hl ⊢
 have hw':1 ≤ W ∧ W ≤ 7:=by omega
 have hh':1 ≤ H ∧ H ≤ 7:=by omega
 obtain ⟨f1,_⟩:=strD_facts hw' hh' hl hd'
 exact tilted_calls W H (dirB d) A0_2 c0_2 l0_2 (mvD W H d l0_2) w hr0_2 hc0_2 f1 (mv_fst hd') (mv_snd hd') (fun p hp=>by
  have:=mv_mem hd' hp
  rw [hl];exact ⟨this.1,this.2.2.1⟩) (fun W' hW=>slide_calls hw' hh' hl hd' A0_2 c0_2 W' (Kd.C_below hr0_2 hW) hc0_2)
end Go.Proofs.YtldhkbiomingbaaGreatDoor

namespace Go.Proofs.YtldhkbiomingbaaGreatDoor.F
open Go.RowKit Go.Proofs.YtldhkbiomingbaaGreatDoor Go.YW.PrintWords Go.YW.PrintLast Go.YW.PrintMore Go.Lib
attribute [local go_sem] max2_int min2_int max_two min_two max_three min_three max_four min_four
def Sv (t:TypeId) (W:World) (base:Nat) (ok:Nat → Prop) (v:Value) (xs:List Int):Prop :=
 ∃ g cap cur lo hi,v = .slice (some ⟨g,0,none⟩) xs.length cap ∧ ok g ∧ W.heap[g]? = some (.cells cur t (lo,hi)) ∧ xs.length ≤ cap ∧ cap ≤ lo ∧ xs.length ≤ 9223372036854775807 ∧ ∀ j,j < xs.length → cur[j]? = some (.int .u8 (xs.getD j 0))
section
variable {t:TypeId} {W w1:World} {base base':Nat} {ok ok':Nat → Prop} {v:Value} {xs:List Int}
theorem Sv_slice (h:Sv t W base ok v xs):∃ A c,v = .slice A xs.length c:=by
 obtain ⟨g,cap,cur,lo,hi,rfl,_⟩:=h;exact ⟨_,_,rfl⟩
theorem Sv_mono (h:Sv t W base ok v xs) (hok:∀ k,ok k → ok' k):Sv t W base ok' v xs:=by
 obtain ⟨g,cap,cur,lo,hi,e,h1,r⟩:=h;exact ⟨g,cap,cur,lo,hi,e,hok g h1,r⟩
theorem Sv_lower (h:Sv t W base ok v xs) (_:base' ≤ base):Sv t W base' ok v xs:=h
theorem Sv_far (h:Sv t W base ok v xs) {p:Addr} (hok:∀ k,ok k → k ≠ p.block) (u:Value):Sv t (W.setCell p u) base ok v xs:=by
 obtain ⟨g,cap,cur,lo,hi,e,h1,h2,r⟩:=h
 exact ⟨g,cap,cur,lo,hi,e,h1,(Below.heap_setCell W p u g (hok g h1)).trans h2,r⟩
theorem Sv_below (h:Sv t W base ok v xs) (hb:Below W.heap.size W w1):Sv t w1 base ok v xs:=by
 obtain ⟨g,cap,cur,lo,hi,e,h1,h2,r⟩:=h
 exact ⟨g,cap,cur,lo,hi,e,h1,(hb.block g (Array.getElem?_eq_some_iff.1 h2).1).trans h2,r⟩
theorem Sv_alloc (h:Sv t W base ok v xs) (o:Obj):Sv t (W.alloc o) base ok v xs:=Sv_below h ((Below.refl _ W).alloc (Nat.le_refl _) o)
theorem Sv_drewN (h:Sv t W base ok v xs) (m:Nat):Sv t (W.drewN m) base ok v xs:=h
theorem Sv_drew (h:Sv t W base ok v xs):Sv t W.drew base ok v xs:=h
end
theorem conv_S (W:World) (e:TypeId) (s:ByteArray) (hmax:s.size ≤ 9223372036854775807):Sv e (Lib.bytesWorld W e s) W.heap.size (fun k_=>W.heap.size ≤ k_) (.slice (some ⟨W.heap.size,0,none⟩) s.size (grownCap W s.size 0 e)) (bytesOf s):=by
 have hl:=bytesOf_length s
 have hcap:s.size ≤ grownCap W s.size 0 e:=by exact grownCap_ge ..
 refine ⟨W.heap.size,grownCap W s.size 0 e,_,_,_,by rw [hl],Nat.le_refl _,Lib.bytesWorld_at_new W e s,by rw [hl];exact hcap,?_,by rw [hl];exact hmax,?_⟩
 ·unfold Lib.bytesCells
  rw [Array.size_append,Array.size_map,Array.size_replicate]
  show _ ≤ s.size + _
  omega
 ·intro j hj
  rw [hl] at hj
  have hc:=Lib.bytesWorld_cell W e s j hj
  unfold World.cell? at hc
  rw [Lib.bytesWorld_at_new] at hc
  have hc':(Lib.bytesCells W e s)[j]? = some (.int .u8 (s.data.toList.getD j 0).toNat):=hc
  rw [hc']
  unfold bytesOf
  rw [List.getD_eq_getElem?_getD,List.getD_eq_getElem?_getD,List.getElem?_map]
  have hjl:j < s.data.toList.length:=by rw [data_length];exact hj
  rw [List.getElem?_eq_getElem hjl];rfl
section
variable {P:Program} {ops:Array Oper} {rest:List Oper} {o:Oper} {a:Act} {Q:Exit → Act → World → Prop} {W:World} {Kc:Act → World → Prop}
theorem conv_stepS (hw:Region.wanted o (yielded ops a.tmps) = true) {N:Tmp} (_hd:o.dst = some N) (src dst e:TypeId) (x:Operand) (ho:o.op = .convert src dst x) (s:ByteArray) (hx:a.eval x = .string s)
  (hs:P.underlying src = some .string) (hdst:P.underlying dst = some (.slice e)) (he:P.underlying e = some (.int .u8)) (r:List Int) (hr:conv_bytes.f s = some r)
  (h:∀ v w1,Sv e w1 W.heap.size (fun k_=>(W.heap.size ≤ k_)) v r → Below W.heap.size W w1 → Kc (a.put o.dst v) w1):if Region.wanted o (yielded ops a.tmps) = true then Oper.wp P o a W Kc Q else Kc (a.put o.dst undef) W:=by
 obtain ⟨hmax,rfl⟩:=conv_bytes_some hr
 refine event_step hw (v:=.slice (some ⟨W.heap.size,0,none⟩) s.size (grownCap W s.size 0 e)) (w1:=Lib.bytesWorld W e s) ?_ (h _ _ (conv_S W e s hmax) (conv_below W e s))
 simp [execOp,ho,hx,Lib.run_convert_string_bytes W src dst e s hs hdst he]
end
theorem impl_read.callsS (a0:ByteArray) (r1:Int) (r2:Int) (r3:List Int) (w:World) (h:impl_read.f a0 = some (r1,r2,r3)) :
  Calls Tryz.prog 51 #[.string a0] w fun e w'=>∃ v2_:Value,e = .returned (.agg #[.int .i64 r1,.int .i64 r2,v2_]) ∧ Sv 5 w' w.heap.size (fun k_=>(w.heap.size ≤ k_)) v2_ r3 ∧ Below w.heap.size w w':=by
 have hu65:=Tryz.underlying65
 have HB:=am (Below.refl w.heap.size w)
 have H:((strings_Split.f a0 (⟨#[47]⟩:ByteArray)).bind fun t102=>(if 0 < (t102.length:Int) then ((strings_Join.f t102 (⟨#[]⟩:ByteArray)).bind fun t106=>((conv_bytes.f t106).bind fun t107=>(some (((rdOf ByteArray.empty t102 0).size:Int),(t102.length:Int),t107)))) else (none))) = some (r1,r2,r3):=h
 clear h
 obtain ⟨t102,A2,H⟩:=bn H
 replace H:=gd H
 obtain ⟨c3,H⟩:=H
 have c3b0:=decide_eq_true c3
 have c3b1:decide (0 < t102.length) = true:=decide_eq_true o_m
 clear c3
 obtain ⟨t106,A4,H⟩:=bn H
 obtain ⟨t107,A5,H⟩:=bn H
 simp only [Option.some.injEq,Prod.mk.injEq] at H
 obtain ⟨rfl,rfl,rfl⟩:=H
 go_enter Tryz.func51,Tryz.ntmps51
 try go_wp2_with (first | (refine bx 2 #[.int .i64 0,.int .i64 0,.slice none 0 0] 65 ?_;intro gb101 hg w6 hbox hb;have BK101:=am (hbox);have GW101:=am ((by rw [hg];exact (below_size (by repeat (first | (with_reducible first | exact HB.out | apply below_alloc | apply pw_below_drewN | apply below_drew1) | exact HB.out))):w.heap.size ≤ gb101));have GE101:=am ((by rw [hg];exact (below_size (by repeat (first | (with_reducible first | exact HB.out | apply below_alloc | apply pw_below_drewN | apply below_drew1) | exact HB.out))):w.heap.size ≤ gb101));replace HB:=am (below_step (by repeat (first | (with_reducible first | exact HB.out | apply below_alloc | apply pw_below_drewN | apply below_drew1) | exact HB.out)) hb);clear hb hbox hg) | ((with_reducible refine gate_callee (f:=90) rfl ?_);refine goesL_ (some 5) rfl rfl Tryz.func90 k_r rfl #[.string a0,.string (⟨#[47]⟩:ByteArray)] rfl (by (try simp only [List.map_toArray,List.map_cons,List.map_nil]);first | done | rfl | (simp only [List.length_drop,List.length_take];rfl)) ?_;(with_reducible refine (strings_Split.calls a0 (⟨#[47]⟩:ByteArray) t102 _ A2.out).mono ?_);rintro e w7 ⟨v103,rfl,ho0,hb⟩;refine ⟨_,rfl,?_⟩;have HO104:=am (Kd.R_lower (Kd.R_newM (M:=fun k_=>(w.heap.size ≤ k_)) ho0 (below_size (by repeat (first | (with_reducible first | exact HB.out | apply below_alloc | apply pw_below_drewN | apply below_drew1 | refine below_set ?_ GE101.out) | exact HB.out))) (fun k_ h_=>h_)) (below_size (by repeat (first | (with_reducible first | exact HB.out | apply below_alloc | apply pw_below_drewN | apply below_drew1 | refine below_set ?_ GE101.out) | exact HB.out))));replace BK101:=am (blk_below (g:=gb101) (o:=.cells #[.int .i64 0,.int .i64 0,.slice none 0 0] 65 (0,0)) (by (with_reducible repeat (first | refine blk_drewN ?_ _ | refine blk_drew ?_ | refine blk_alloc ?_ _));exact BK101.out) hb);replace HB:=am (below_step (by repeat (first | (with_reducible first | exact HB.out | apply below_alloc | apply pw_below_drewN | apply below_drew1 | refine below_set ?_ GE101.out) | exact HB.out)) hb);(try clear hb);(try clear ho0)))
 replace HO104:=am (Kd.R_drew HO104.out)
 replace BK101:=am (blk_drew BK101.out)
 replace HB:=am (below_drew1 HB.out)
 obtain ⟨Ao9,co9,eo9⟩:=Kd.R_slice HO104.out
 (first | subst eo9 | (injection eo9 with f1_ f2_ f3_;have f4_:=f1_.symm;have f5_:=f3_.symm;clear f1_ f2_ f3_;subst f4_;subst f5_))
 have p105:0 ≤ (0:Int):=o_m
 have q105:0 < (t102.length:Int):=of_decide_eq_true (by first | (with_reducible assumption) | assumption)
 obtain ⟨ad105,e105,hx105_0⟩:=Kd.at_string (Kd.R_reads' HO104.out).2.2 0 p105 q105
 cases e105
 have qi105:(0 < t102.length) = True:=eq_true o_m
 (try rw [show ((0:Int)).toNat = 0 from rfl] at hx105_0)
 (try rw [Addr.add_zero'] at hx105_0)
 replace p105:=eq_true p105
 replace q105:=eq_true q105
 refine start_ (n:=11) (S:=fun w'=>w'.cell? ad105 = some (.string (rdOf ByteArray.empty t102 0))) (ds:=[]) (bm 11 0) k_r rfl rfl (hx105_0) (fun hHeld=>?_);refine with_tabW impl_read.tab2 impl_read.bits2 (fun HT_ HW_=>?_)
 generalize w7.drew = w8 at HO104 BK101 HB hx105_0 hHeld ⊢
 refine py (i:=0) (N:=some 6) (bm 11 1) ?_
 refine py (i:=1) (N:=some 7) (bm 11 3) ?_
 refine py (i:=4) (N:=some 10) (bm 11 19) ?_
 refine py (i:=5) (N:=some 11) (bm 11 51) ?_
 refine py (i:=6) (N:=some 12) (bm 11 115) ?_
 refine take_ (i:=2) (N:=some 8) (v:=?_) (a':=?_) (bm 11 119) rfl rfl (take_ofW HT_.out HW_.out k_r) (fun _ _ _ h=>h) (Or.inl ⟨by rfl,?_⟩) hHeld ?_ ?_
 rotate_left
 ·intro w' s0
  go_simp
  with_reducible rfl
 rotate_left
 ·simp only [Act.put,ac_]
  rfl
 refine py (i:=3) (N:=some 9) (bm 11 127) ?_
 refine one_ (i:=7) (N:=some 13) (bm 11 255) rfl rfl (one_of HT_.out k_r) d_c (fun K hK=>?_)
 refine goes_ Tryz.func91 k_r rfl #[.slice (some ad105) t102.length co9,.string (⟨#[]⟩:ByteArray)] (by rfl) rfl rfl (by (try simp only [List.map_toArray,List.map_cons,List.map_nil]);first | done | rfl | (simp only [List.length_drop,List.length_take];rfl)) ?_
 with_reducible refine (strings_Join.calls _ _ t102 (⟨#[]⟩:ByteArray) t106 _ ?side1 ?side2 A4.out).mono ?_
 (case side1=>repeat (first | exact (Kd.R_reads' HO104.out).2.2 | (with_reducible refine Kd.C_alloc ?_ _) | (with_reducible refine Kd.C_drewN ?_ _) | (with_reducible refine Kd.C_drew ?_)))
 (case side2=>exact (Kd.R_reads' HO104.out).2.1)
 rintro e w10 ⟨rfl,hb⟩
 have HS0_:=(hb.cell (World.block_lt_of_cell? _ _ (hHeld))).trans (hHeld)
 refine ⟨_,rfl,?_⟩
 replace HO104:=am (Kd.R_below (by (with_reducible repeat (first | apply Kd.R_alloc | apply Kd.R_drewN | apply Kd.R_drew));exact HO104.out) hb)
 replace BK101:=am (blk_below (g:=gb101) (o:=.cells #[.int .i64 0,.int .i64 0,.slice none 0 0] 65 (0,0)) (by (with_reducible repeat (first | refine blk_drewN ?_ _ | refine blk_drew ?_ | refine blk_alloc ?_ _));exact BK101.out) hb)
 replace HB:=am (below_step (by repeat (first | (with_reducible first | exact HB.out | apply below_alloc | apply pw_below_drewN | apply below_drew1 | refine below_set ?_ GE101.out) | exact HB.out)) hb)
 (try clear hb)
 refine hK.out _ _ (HS0_) (fun hHeld=>?_)
 clear hK K
 refine nm (some 13) ?_
 refine one_ (i:=8) (N:=some 14) (bm 11 511) rfl rfl (one_of HT_.out k_r) d_c (fun K hK=>?_)
 refine conv_stepS (by rfl) (N:=14) rfl 9 63 5 _ rfl t106 rfl Tryz.underlying9 Tryz.underlying63 Tryz.underlying5 t107 A5.out ?_
 intro v108 w11 ho0 hb
 have HS0_:=(hb.cell (World.block_lt_of_cell? _ _ (hHeld))).trans (hHeld)
 have HO109:=am (Sv_lower (Sv_mono (ok':=fun k_=>(w.heap.size ≤ k_) ∧ some k_ ≠ (.slice (some ad105) t102.length co9:Value).ownBlock ∧ k_ ≠ gb101) ho0 (fun k_ hk_=>⟨(Nat.le_trans (below_size (by repeat (first | (with_reducible first | exact HB.out | apply below_alloc | apply pw_below_drewN | apply below_drew1 | refine below_set ?_ GE101.out) | exact HB.out))) hk_),(Kd.fresh' (Kd.R_lt (by (with_reducible repeat (first | apply Kd.R_alloc | apply Kd.R_drewN | apply Kd.R_drew));exact HO104.out)) k_ hk_),(Kd.freshB (g:=gb101) (o:=.cells #[.int .i64 0,.int .i64 0,.slice none 0 0] 65 (0,0)) (by (with_reducible repeat (first | refine blk_drewN ?_ _ | refine blk_drew ?_ | refine blk_alloc ?_ _));exact BK101.out) k_ hk_)⟩)) (below_size (by repeat (first | (with_reducible first | exact HB.out | apply below_alloc | apply pw_below_drewN | apply below_drew1 | refine below_set ?_ GE101.out) | exact HB.out))))
 replace HO104:=am (Kd.R_below (by (with_reducible repeat (first | apply Kd.R_alloc | apply Kd.R_drewN | apply Kd.R_drew));exact HO104.out) hb)
 replace BK101:=am (blk_below (g:=gb101) (o:=.cells #[.int .i64 0,.int .i64 0,.slice none 0 0] 65 (0,0)) (by (with_reducible repeat (first | refine blk_drewN ?_ _ | refine blk_drew ?_ | refine blk_alloc ?_ _));exact BK101.out) hb)
 replace HB:=am (below_step (by repeat (first | (with_reducible first | exact HB.out | apply below_alloc | apply pw_below_drewN | apply below_drew1 | refine below_set ?_ GE101.out) | exact HB.out)) hb)
 (try clear hb)
 (try clear ho0)
 obtain ⟨Ao12,co12,eo12⟩:=Sv_slice HO109.out
 (first | subst eo12 | (injection eo12 with f1_ f2_ f3_;have f4_:=f1_.symm;have f5_:=f3_.symm;clear f1_ f2_ f3_;subst f4_;subst f5_))
 refine hK.out _ _ (HS0_) (fun hHeld=>?_)
 clear hK K
 refine nm (some 14) ?_
 refine py (i:=9) (N:=some 15) (bm 11 1023) ?_
 refine one_ (i:=10) (N:=none) (bm 11 2047) rfl rfl (one_of HT_.out k_r) d_c (fun K hK=>?_)
 have hs13:w11.cell? ⟨gb101,0,none⟩ = some (.int .i64 0):=(blk_cell BK101.out 0).trans rfl
 have hfs13:=blk_frozen BK101.out 0
 have hs14:w11.cell? ⟨gb101,1,none⟩ = some (.int .i64 0):=(blk_cell BK101.out 1).trans rfl
 have hfs14:=blk_frozen BK101.out 1
 have hs15:w11.cell? ⟨gb101,2,none⟩ = some (.slice none 0 0):=(blk_cell BK101.out 2).trans rfl
 have hfs15:=blk_frozen BK101.out 2
 refine skip_ (w1:=?_) (by rfl) rfl ?_ ?_
 rotate_left
 ·go_simp
  rfl
 refine hK.out _ _ (((cell_far (p:=⟨gb101,_,none⟩) (by first | exact Kd.own_blk (Kd.R_ne HO104.out BK101.out d_c) | (rw [add_block];exact Kd.own_blk (Kd.R_ne HO104.out BK101.out d_c)) | (show (Addr.add _ _).block ≠ _;rw [add_block];exact Kd.own_blk (Kd.R_ne HO104.out BK101.out d_c)) | (dsimp only;exact Kd.own_blk (Kd.R_ne HO104.out BK101.out d_c))) _).trans (((cell_far (p:=⟨gb101,_,none⟩) (by first | exact Kd.own_blk (Kd.R_ne HO104.out BK101.out d_c) | (rw [add_block];exact Kd.own_blk (Kd.R_ne HO104.out BK101.out d_c)) | (show (Addr.add _ _).block ≠ _;rw [add_block];exact Kd.own_blk (Kd.R_ne HO104.out BK101.out d_c)) | (dsimp only;exact Kd.own_blk (Kd.R_ne HO104.out BK101.out d_c))) _).trans (((cell_far (p:=⟨gb101,_,none⟩) (by first | exact Kd.own_blk (Kd.R_ne HO104.out BK101.out d_c) | (rw [add_block];exact Kd.own_blk (Kd.R_ne HO104.out BK101.out d_c)) | (show (Addr.add _ _).block ≠ _;rw [add_block];exact Kd.own_blk (Kd.R_ne HO104.out BK101.out d_c)) | (dsimp only;exact Kd.own_blk (Kd.R_ne HO104.out BK101.out d_c))) _).trans (hHeld))))))) (fun hHeld=>?_)
 clear hK K
 refine done_ (done_of HT_.out k_r) ?_
 try go_wp2
 refine bodyPost_ret (results_cell_row rfl _ _ gb101 65 #[.int .i64 ((rdOf ByteArray.empty t102 0).size:Int),.int .i64 (t102.length:Int),.slice Ao12 t107.length co12] (0,0) _ rfl (by (with_reducible repeat (first | refine blk_drewN ?_ _ | refine blk_drew ?_ | refine blk_alloc ?_ _));refine blk_put (cs:=#[.int .i64 ((rdOf ByteArray.empty t102 0).size:Int),.int .i64 (t102.length:Int),.slice none 0 0]) ?_ 2 _ rfl;(with_reducible repeat (first | refine blk_drewN ?_ _ | refine blk_drew ?_ | refine blk_alloc ?_ _));refine blk_put (cs:=#[.int .i64 ((rdOf ByteArray.empty t102 0).size:Int),.int .i64 0,.slice none 0 0]) ?_ 1 _ rfl;(with_reducible repeat (first | refine blk_drewN ?_ _ | refine blk_drew ?_ | refine blk_alloc ?_ _));refine blk_put (cs:=#[.int .i64 0,.int .i64 0,.slice none 0 0]) ?_ 0 _ rfl;(with_reducible repeat (first | refine blk_drewN ?_ _ | refine blk_drew ?_ | refine blk_alloc ?_ _));exact BK101.out) Tryz.underlying65 rfl k_r) rfl ?_
 exact ⟨_,by first | rfl | (simp [errW_none,errW_some] <;> rfl) | (simp [*,errW_none,errW_some] <;> rfl),by (with_reducible repeat (first | apply Sv_alloc | apply Sv_drewN | apply Sv_drew));exact Sv_mono (Sv_far (p:=⟨gb101,2,none⟩) (Sv_far (p:=⟨gb101,1,none⟩) (Sv_far (p:=⟨gb101,0,none⟩) (Sv_mono HO109.out (fun k_ hk=>(⟨hk,hk.2.2⟩:_ ∧ k_ ≠ gb101))) (fun _ hk=>hk.2) (.int .i64 ((rdOf ByteArray.empty t102 0).size:Int))) (fun _ hk=>hk.2) (.int .i64 (t102.length:Int))) (fun _ hk=>hk.2) (.slice Ao12 t107.length co12)) (fun _ hk=>hk.1.1),by repeat (first | (with_reducible first | exact HB.out | apply below_alloc | apply pw_below_drewN | apply below_drew1 | refine below_set ?_ GE101.out) | exact HB.out)⟩
end Go.Proofs.YtldhkbiomingbaaGreatDoor.F

namespace Go.Proofs.YtldhkbiomingbaaGreatDoor
open Go.RowKit Go.YW.PrintWords Go.YW.PrintLast Go.YW.PrintMore Go.Lib
namespace Kx
def R (t:TypeId) (W:World) (base:Nat) (ok:Nat → Prop) (v:Value) (xs:List Int):Prop :=
 (∀ k,v.ownBlock = some k → ok k) ∧ ∃ g cap cur lo hi,v = .slice (some ⟨g,0,none⟩) xs.length cap ∧ base ≤ g ∧ W.heap[g]? = some (.cells cur t (lo,hi)) ∧ xs.length ≤ cap ∧ cap ≤ lo ∧ xs.length ≤ 9223372036854775807 ∧ ∀ j,j < xs.length → cur[j]? = some (.int .u8 (xs.getD j 0))
section
variable {t e e' base base' n cap g:Nat} {W w1:World} {ok ok':Nat → Prop} {u v:Value} {xs:List Int} {α:Type} {d:Kd α} {ys:List α}
theorem R_mono (h:R t W base ok v xs) (hok:∀ k,ok k → ok' k):R t W base ok' v xs:=⟨fun k hk=>hok k (h.1 k hk),h.2⟩
theorem R_lower (h:R t W base ok v xs) (hb:base' ≤ base):R t W base' ok v xs:=by
 obtain ⟨h0,g,cap,cur,lo,hi,e,h1,r⟩:=h;exact ⟨h0,g,cap,cur,lo,hi,e,Nat.le_trans hb h1,r⟩
theorem R_move (h:R t W base ok v xs) (hm:∀ k,v.ownBlock = some k → k < W.heap.size → w1.heap[k]? = W.heap[k]?):R t w1 base ok v xs:=by
 obtain ⟨h0,g,cap,cur,lo,hi,e,h1,h2,r⟩:=h
 exact ⟨h0,g,cap,cur,lo,hi,e,h1,(hm g (by rw [e];rfl) (Array.getElem?_eq_some_iff.1 h2).1).trans h2,r⟩
theorem R_below (h:R t W base ok v xs) (hb:Below W.heap.size W w1):R t w1 base ok v xs:=R_move h (fun k _ hk=>hb.block k hk)
theorem R_alloc (h:R t W base ok v xs) (o:Obj):R t (W.alloc o) base ok v xs:=R_below h ((Below.refl _ W).alloc (Nat.le_refl _) o)
theorem R_drewN (h:R t W base ok v xs) (m:Nat):R t (W.drewN m) base ok v xs:=h
theorem R_drew (h:R t W base ok v xs):R t W.drew base ok v xs:=h
theorem R_far (h:R t W base ok v xs) {p:Addr} (hok:∀ k,ok k → k ≠ p.block) (u:Value):R t (W.setCell p u) base ok v xs:=R_move h (fun k hk _=>Below.heap_setCell W p u k (hok k (h.1 k hk)))
theorem R_blk (h:R t W base ok v xs):∀ k,v.ownBlock = some k → ∃ cells m,W.heap[k]? = some (.cells cells t m):=by
 obtain ⟨_,g,cap,cur,lo,hi,e,h1,h2,_⟩:=h
 intro k hk
 rw [e] at hk
 obtain rfl:g = k:=Option.some.inj hk
 exact ⟨cur,_,h2⟩
theorem R_types (h:R t W base ok v xs) {cells:Array Value} (hb:W.heap[g]? = some (.cells cells e (0,0))) (ht:t ≠ e):R t W base (fun k=>ok k ∧ k ≠ g) v xs :=
 ⟨fun k hk=>⟨h.1 k hk,by
  rintro rfl
  obtain ⟨c,m,hc⟩:=R_blk h k hk
  rw [hb] at hc
  injection hc with hc
  injection hc with _ hc
  exact ht hc.symm⟩,h.2⟩
theorem R_ne (h:R t W base ok v xs) {cells:Array Value} (hb:W.heap[g]? = some (.cells cells e (0,0))) (ht:t ≠ e):some g ≠ v.ownBlock:=fun hk=>((R_types h hb ht).1 g hk.symm).2 rfl
theorem R_apart' (h:R t W base ok v xs) (hty:∀ k,u.ownBlock = some k → ∃ cells,W.heap[k]? = some (.cells cells e' (0,0))) (ht:t ≠ e'):R t W base (fun k=>ok k ∧ some k ≠ u.ownBlock) v xs :=
 ⟨fun k hk=>⟨h.1 k hk,fun hu=>by
  obtain ⟨c,hc⟩:=hty k hu.symm
  exact R_ne h hc ht hk.symm⟩,h.2⟩
theorem R_tight (_h:(0:Nat) = 0) (h:R t W base ok v xs):R t W base (fun k=>some k = v.ownBlock) v xs:=⟨fun k hk=>hk.symm,h.2⟩
theorem R_slice (h:R t W base ok v xs):∃ A c,v = .slice A xs.length c:=by
 obtain ⟨_,g,cap,cur,lo,hi,e,_⟩:=h;exact ⟨_,_,e⟩
theorem R_form (h:R t W base ok v xs) (_hp:0 < xs.length):∃ g cap,v = .slice (some ⟨g,0,none⟩) xs.length cap ∧ base ≤ g ∧ g < W.heap.size ∧ ∃ cells,∃ m,W.heap[g]? = some (.cells cells t m):=by
 obtain ⟨_,g,cap,cur,lo,hi,e,h1,h2,_⟩:=h;exact ⟨g,cap,e,h1,(Array.getElem?_eq_some_iff.1 h2).1,cur,_,h2⟩
theorem R_parts (h:R t W base ok (.slice (some ⟨g,0,none⟩) n cap) xs):n = xs.length ∧ base ≤ g ∧ ∃ cur lo hi,W.heap[g]? = some (.cells cur t (lo,hi)) ∧ xs.length ≤ cap ∧ cap ≤ lo ∧ xs.length ≤ 9223372036854775807 ∧ ∀ j,j < xs.length → cur[j]? = some (.int .u8 (xs.getD j 0)):=by
 obtain ⟨_,g',cap',cur,lo,hi,e,h1,r⟩:=h
 injection e with e1 e2 e3
 injection e1 with e1
 injection e1 with e1
 subst e1 e3
 exact ⟨e2,h1,cur,lo,hi,r⟩
theorem R_celln (d:Int) (h:R t W base ok (.slice (some ⟨g,0,none⟩) n cap) xs) (i:Int) (h0:0 ≤ i) (hi:i < n):W.cell? ⟨g,i.toNat,none⟩ = some (.int .u8 (rdOf d xs i)) ∧ W.frozen? ⟨g,i.toNat,none⟩ = false:=by
 obtain ⟨rfl,hb,cur,lo,hi',h2,h3,h4,h5,h6⟩:=R_parts h
 have hil:i.toNat < xs.length:=by omega
 refine ⟨(cell_of_row W g i.toNat cur t _ h2).trans ((h6 _ hil).trans ?_),?_⟩
 ·unfold rdOf
  rw [List.getD_eq_getElem?_getD,List.getD_eq_getElem?_getD,List.getElem?_eq_getElem hil];rfl
 ·simp [World.frozen?,h2]
  omega
theorem R_putg (h:R t W base ok (.slice (some ⟨g,0,none⟩) n cap) xs) (i:Int) (x:Int):R t (W.setCell ⟨g,i.toNat,none⟩ (.int .u8 x)) base ok (.slice (some ⟨g,0,none⟩) n cap) (xs.set i.toNat x) ∧ W.grownBy (W.setCell ⟨g,i.toNat,none⟩ (.int .u8 x)) (some g):=by
 have h0:=h.1
 obtain ⟨rfl,hb,cur,lo,hi,h2,h3,h4,h5,h6⟩:=R_parts h
 refine ⟨⟨h0,g,cap,cur.setIfInBounds i.toNat (.int .u8 x),lo,hi,by rw [List.length_set],hb,?_,by rw [List.length_set];exact h3,h4,by rw [List.length_set];exact h5,fun j hj=>?_⟩,?_⟩
 ·simp [World.setCell,Array.getElem?_modify,h2]
 ·rw [List.length_set] at hj
  have hc:=h6 j hj
  have hjs:=(Array.getElem?_eq_some_iff.1 hc).1
  by_cases e:i.toNat = j
  rotate_left
  ·rw [Array.getElem?_setIfInBounds_ne e,hc,List.getD_eq_getElem?_getD,List.getD_eq_getElem?_getD,List.getElem?_set_ne e]
  subst e
  rw [Array.getElem?_setIfInBounds_self,if_pos hjs,List.getD_eq_getElem?_getD,List.getElem?_set_self hj];rfl
 ·exact ⟨rfl,rfl,rfl,by rw [World.size_setCell];exact Nat.le_refl _,fun k hk hne=>Below.heap_setCell W _ _ k (fun e=>hne (by rw [e]))⟩
theorem R_over' (h:d.R e W base ok u ys) (hty:∀ k,v.ownBlock = some k → ∃ cells m,W.heap[k]? = some (.cells cells e' m)) (ht:∀ q,q ∈ e :: d.E → q ≠ e') (hg:W.grownBy w1 v.ownBlock):d.R e w1 base ok u ys:=by
 refine Kd.R_mono (Kd.R_move (Kd.R_bound h) (fun k hk=>hg.block k hk.2.2.1 (fun he=>?_))) (fun _ hk=>hk.1)
 obtain ⟨_,_,_,q,hq,cells,hc⟩:=hk
 obtain ⟨cells',m,hc'⟩:=hty k he.symm
 rw [hc] at hc'
 injection hc' with hc'
 injection hc' with _ hc'
 exact ht q hq hc'
theorem R_V (h:R t W base ok v xs):Kd.V (Kd.int .u8) t W base' ok v xs:=by
 obtain ⟨h0,g,cap,cur,lo,hi,rfl,h1,h2,h3,h4,h5,h6⟩:=h
 refine ⟨_,cap,rfl,h3,fun W' hW=>?_⟩
 have h2':W'.heap[g]? = some (.cells cur t (lo,hi)):=(hW g (h0 g rfl) (Array.getElem?_eq_some_iff.1 h2).1).trans h2
 refine Kd.C_of_reads (enc:=Value.int .u8) (d:=(0:Int)) (h1:=fun _=>rfl) ⟨rfl,h5,fun _=>⟨_,rfl,fun j hj=>?_⟩⟩
 have:=(cell_of_row W' g j cur t _ h2').trans (h6 j hj)
 rwa [show (Addr.add ⟨g,0,none⟩ j) = ⟨g,j,none⟩ from by cases j <;> simp [Addr.add]]
end
end Kx
namespace F
open Go.Proofs.YtldhkbiomingbaaGreatDoor
def impl_readS.f (a0:ByteArray):Option (Int × Int × List Int):=impl_read.f a0
theorem impl_readS.calls (a0:ByteArray) (r1:Int) (r2:Int) (r3:List Int) (w:World) (h:impl_readS.f a0 = some (r1,r2,r3)) :
  Calls Tryz.prog 51 #[.string a0] w fun e w'=>∃ v2_:Value,e = .returned (.agg #[.int .i64 r1,.int .i64 r2,v2_]) ∧ Kx.R 5 w' w.heap.size (fun _=>True) v2_ r3 ∧ Below w.heap.size w w':=by
 refine (impl_read.callsS a0 r1 r2 r3 w h).mono ?_
 rintro e w' ⟨v2,rfl,⟨g,cap,cur,lo,hi,e,h1,h2,h3,h4,h5,h6⟩,hb⟩
 exact ⟨v2,rfl,⟨fun _ _=>trivial,g,cap,cur,lo,hi,e,h1,h2,h3,h4,h5,h6⟩,hb⟩
end F
end Go.Proofs.YtldhkbiomingbaaGreatDoor
