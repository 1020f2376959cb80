/- The proof that the law's row holds, part 3: the kit's words, the printed walks and the plain law. No conditions beyond the card's own. -/
import Derived.Test.YtldhkbiomingbaaGreatDoorH0
import Derived.Test.YtldhkbiomingbaaGreatDoorH1
import Derived.Test.YtldhkbiomingbaaGreatDoorH2
set_option linter.unusedVariables false
set_option linter.unusedSimpArgs false
namespace Go.Proofs.YtldhkbiomingbaaGreatDoor
open Go.RowKit Go.YW.PrintWords Go.YW.PrintMore Go.Proofs.YtldhkbiomingbaaGreatDoor.F
theorem rd_cast (l:List Nat) (i:Nat) (h:i < l.length):rd (castsI l) (i:Int) = ((l[i]'h:Nat):Int):=by
 unfold rd
 rw [Int.toNat_natCast,List.getD_eq_getElem?_getD,castsI_getD l i h];rfl
theorem casts_app (a b:List Nat):castsI (a ++ b) = castsI a ++ castsI b:=by simp [castsI]
theorem casts_one (i:Nat):castsI [i] = [((i:Nat):Int)]:=rfl
theorem least_ev (x y:Nat):spec_l1Least.f (x:Int) (y:Int) = some ((Nat.min x y:Nat):Int):=by
 unfold spec_l1Least.f
 by_cases h:x < y
 rotate_left
 ·rw [if_neg o_m,show Nat.min x y = y from Nat.min_eq_right o_m]
 rw [if_pos o_m,show Nat.min x y = x from Nat.min_eq_left o_m]
theorem tiFirst_l0 (L:List Nat) (hL:L.length < 1000000):∀ (n i m:Nat),i + n = L.length → Ev (fun k=>spec_tiFirst.l0 k (m:Int) (castsI L) (L.length:Int) (i:Int)) (((L.drop i).foldl Nat.min m:Nat):Int)
 | 0,i,m,h=>by
  refine Ev.step (f:=fun _=>some (m:Int)) (fun k=>by rw [spec_tiFirst.l0,if_neg o_m]) ?_
  rw [List.drop_eq_nil_of_le o_m]
  exact Ev.now _
 | n + 1,i,m,h=>by
  have hi:i < L.length:=by omega
  have hw:wrap64 ((i:Int) + 1) = ((i + 1:Nat):Int):=by rw [w64 o_m o_m];rfl
  refine Ev.step (f:=fun k=>spec_tiFirst.l0 k ((Nat.min m (L[i]'hi):Nat):Int) (castsI L) (L.length:Int) ((i + 1:Nat):Int)) (fun k=>by
   rw [spec_tiFirst.l0,if_pos o_m,if_pos o_m,castsI_length,if_pos o_m,rd_cast L i hi,least_ev,Option.bind_some,hw]) ?_
  rw [List.drop_eq_getElem_cons hi,List.foldl_cons]
  exact tiFirst_l0 L hL n (i + 1) _ o_m
theorem tiFirst_ev {L:List Nat} (hne:L ≠ []) (hL:L.length < 1000000):Ev (fun k=>spec_tiFirst.f k (castsI L)) ((leastL L:Nat):Int):=by
 obtain ⟨a,t,rfl⟩:∃ a t,L = a :: t:=by cases L with | nil=>exact absurd rfl hne | cons a t=>exact ⟨a,t,rfl⟩
 have h0:=tiFirst_l0 (a :: t) hL (a :: t).length 0 a o_m
 have e:((a :: t).drop 0).foldl Nat.min a = leastL (a :: t):=by
  rw [List.drop_zero,List.foldl_cons,show Nat.min a a = a from Nat.min_self a];rfl
 rw [e] at h0
 refine Ev.congr (fun k=>?_) h0
 unfold spec_tiFirst.f
 rw [castsI_length,if_pos (by simp only [List.length_cons];omega),show rd (castsI (a :: t)) 0 = (a:Int) from rfl];rfl
theorem tyCell_eq {w h:Nat} (hw:1 ≤ w ∧ w ≤ 7) (hh:1 ≤ h ∧ h ≤ 7) (cs:List Int) (X Y:Int):spec_tyCell.f w h cs X Y = some (decide ((0 ≤ X ∧ X < (w:Int)) ∧ 0 ≤ Y ∧ Y < (h:Int))):=by
 unfold spec_tyCell.f spec_l1In.f
 rw [w64 (show -9223372036854775808 ≤ (w:Int) - 1 by omega) o_m,w64 (show -9223372036854775808 ≤ (h:Int) - 1 by omega) o_m]
 by_cases h1:X ≥ 0
 rotate_left
 ·rw [if_neg h1,Option.bind_some,if_neg Bool.false_ne_true]
  congr 1
  exact (decide_eq_false o_m).symm
 rw [if_pos h1,Option.bind_some]
 by_cases h2:X ≤ (w:Int) - 1
 rotate_left
 ·rw [if_neg (by simp [h2])]
  congr 1
  exact (decide_eq_false o_m).symm
 rw [if_pos (decide_eq_true h2)]
 by_cases h3:Y ≥ 0
 rotate_left
 ·rw [if_neg h3,Option.bind_some]
  congr 1
  exact (decide_eq_false o_m).symm
 rw [if_pos h3,Option.bind_some]
 congr 1
 rw [Bool.eq_iff_iff,decide_eq_true_iff,decide_eq_true_iff]
 omega
def lookI (w h:Nat) (cs:List Int) (X Y:Int):Int:=if (0 ≤ X ∧ X < (w:Int)) ∧ 0 ≤ Y ∧ Y < (h:Int) then (if openAt cs (Y.toNat * w + X.toNat) = true then ((Y.toNat * w + X.toNat:Nat):Int) else -1) else -1
theorem look_eq {w h:Nat} (hw:1 ≤ w ∧ w ≤ 7) (hh:1 ≤ h ∧ h ≤ 7) {cs:List Int} (hl:cs.length = w * h) (X Y:Int) :
  ((spec_tyCell.f w h cs X Y).bind fun t=>if t = true then (if 0 ≤ wrap64 (wrap64 (Y * w) + X) then (if wrap64 (wrap64 (Y * w) + X) < (cs.length:Int) then (if rd cs (wrap64 (wrap64 (Y * w) + X)) = 35 then some (-1) else some (wrap64 (wrap64 (Y * w) + X))) else none) else none) else some (-1)) = some (lookI w h cs X Y):=by
 rw [tyCell_eq hw hh,Option.bind_some]
 unfold lookI
 by_cases hc:(0 ≤ X ∧ X < (w:Int)) ∧ 0 ≤ Y ∧ Y < (h:Int)
 rotate_left
 ·rw [if_neg (by simp only [decide_eq_true_eq];exact hc),if_neg hc]
 rw [if_pos (decide_eq_true hc),if_pos hc]
 obtain ⟨⟨x,rfl⟩,⟨y,rfl⟩⟩:(∃ x:Nat,X = x) ∧ (∃ y:Nat,Y = y):=⟨⟨X.toNat,by omega⟩,⟨Y.toNat,by omega⟩⟩
 have hx:x < w:=by omega
 have hy:y < h:=by omega
 have hlt:y * w + x < w * h:=(place_lt hx hy)
 have h49:w * h ≤ 7 * 7:=Nat.mul_le_mul hw.2 hh.2
 have e1:(y:Int) * (w:Int) = ((y * w:Nat):Int):=by rw [Int.natCast_mul]
 have e:wrap64 (wrap64 ((y:Int) * (w:Int)) + (x:Int)) = ((y * w + x:Nat):Int):=by
  have e0:wrap64 ((y * w:Nat):Int) = ((y * w:Nat):Int):=w64 o_m o_m
  rw [e1,e0,← Int.natCast_add];exact w64 o_m o_m
 rw [e,if_pos o_m,if_pos o_m,Int.toNat_natCast,Int.toNat_natCast]
 unfold rd openAt isOpenC
 rw [Int.toNat_natCast]
 by_cases h35:cs.getD (y * w + x) 0 = 35
 rotate_left
 ·rw [if_neg h35,if_pos (by simpa using h35)]
 rw [if_pos h35,h35,if_neg d_c]
theorem tiAhead_eq {w h:Nat} (hw:1 ≤ w ∧ w ≤ 7) (hh:1 ≤ h ∧ h ≤ 7) {cs:List Int} (hl:cs.length = w * h) {i d:Nat} (hi:i < w * h) (hd:d < 4):spec_tiAhead.f w h cs i d = some (aheadI w h cs i d):=by
 have h49:w * h ≤ 7 * 7:=Nat.mul_le_mul hw.2 hh.2
 have e1:Int.tdiv (i:Int) (w:Int) = ((i / w:Nat):Int):=rfl
 have e2:Int.tmod (i:Int) (w:Int) = ((i % w:Nat):Int):=rfl
 have b1:i / w ≤ i:=Nat.div_le_self _ _
 have b2:i % w ≤ i:=Nat.mod_le _ _
 unfold spec_tiAhead.f aheadI
 rw [if_neg o_m,e1,e2]
 generalize i / w = y at *
 generalize i % w = x at *
 rw [w64 (n:=(y:Int)) o_m o_m,w64 (n:=(y:Int) - 1) o_m o_m,w64 (n:=(y:Int) + 1) o_m o_m,w64 (n:=(x:Int) - 1) o_m o_m,w64 (n:=(x:Int) + 1) o_m o_m]
 rcases dir4 hd with rfl | rfl | rfl | rfl
 ·rw [if_pos (by rfl)]
  exact look_eq hw hh hl (x:Int) ((y:Int) - 1)
 ·rw [if_neg d_c,if_pos (by rfl)]
  exact look_eq hw hh hl ((x:Int) + 1) (y:Int)
 ·rw [if_neg d_c,if_neg d_c,if_pos (by rfl)]
  exact look_eq hw hh hl (x:Int) ((y:Int) + 1)
 ·rw [if_neg d_c,if_neg d_c,if_neg d_c]
  exact look_eq hw hh hl ((x:Int) - 1) (y:Int)
def nxtI (w h d:Nat) (cs:List Int) (a b:Nat):Int:=if (decide (b + 1 < lnK w h d) && openAt cs (pos w h d a (b + 1))) = true then (pos w h d a (b + 1):Int) else -1
def restD (w h d:Nat) (cs:List Int) (a b:Nat):List Nat:=((lineD w h d a).drop b).takeWhile (openAt cs)
theorem lineD_length (w h d a:Nat):(lineD w h d a).length = lnK w h d:=by simp [lineD]
theorem restD_end {w h d a b:Nat} {cs:List Int} (hb:lnK w h d ≤ b):restD w h d cs a b = []:=by
 unfold restD;rw [List.drop_eq_nil_of_le (by rw [lineD_length];exact hb)];rfl
theorem restD_cons {w h d a b:Nat} {cs:List Int} (hb:b < lnK w h d):restD w h d cs a b = if openAt cs (pos w h d a b) = true then pos w h d a b :: restD w h d cs a (b + 1) else []:=by
 unfold restD
 rw [List.drop_eq_getElem_cons (by rw [lineD_length];exact hb),List.takeWhile_cons]
 have e:(lineD w h d a)[b]'(by rw [lineD_length];exact hb) = pos w h d a b:=by simp [lineD]
 rw [e]
theorem restD_length (w h d a b:Nat) (cs:List Int):(restD w h d cs a b).length ≤ lnK w h d:=by
 unfold restD
 exact Nat.le_trans (List.takeWhile_sublist _).length_le (by rw [List.length_drop,lineD_length];omega)
theorem lnK_le {w h d:Nat} (hw:w ≤ 7) (hh:h ≤ 7):lnK w h d ≤ 7:=by unfold lnK;split <;> omega
theorem opp_eq {d:Nat} (hd:d < 4):Int.tmod (wrap64 ((d:Int) + 2)) 4 = (((d + 2) % 4:Nat):Int):=by
 rw [w64 o_m o_m];rfl
section
variable {w h d:Nat} {cs:List Int} (hw:1 ≤ w ∧ w ≤ 7) (hh:1 ≤ h ∧ h ≤ 7) (hl:cs.length = w * h) (hd:d < 4)
include hw hh hl hd
theorem follow_l1 (x5:List (List Int)) (x13:List Int) (x14 x15:Int) (r:List (List Int)) {a:Nat} (ha:a < lnM w h d):∀ (n b:Nat) (x8:List Nat),b + n + 1 = lnK w h d → x8.length ≤ b + 1 →
  Ev (fun k=>spec_tiStretches.l2 k d x5 (castsI (x8 ++ restD w h d cs a (b + 1))) 0 x13 x14 x15 w h cs) r →
  Ev (fun k=>spec_tiStretches.l1 k d x5 (castsI x8) (nxtI w h d cs a b) x13 x14 x15 w h cs) r
 | 0,b,x8,hb,hx,hr=>by
  have hneg:nxtI w h d cs a b = -1:=by unfold nxtI;rw [decide_eq_false o_m,Bool.false_and,if_neg Bool.false_ne_true]
  rw [restD_end o_m,List.append_nil] at hr
  rw [hneg]
  exact Ev.step (fun k=>by rw [spec_tiStretches.l1,if_neg o_m]) hr
 | n + 1,b,x8,hb,hx,hr=>by
  have hK:=lnK_le (d:=d) hw.2 hh.2
  rw [restD_cons o_m] at hr
  unfold nxtI
  by_cases ho:openAt cs (pos w h d a (b + 1)) = true
  rotate_left
  ·rw [if_neg ho,List.append_nil] at hr
   rw [show openAt cs (pos w h d a (b + 1)) = false by simpa using ho,Bool.and_false,if_neg Bool.false_ne_true]
   exact Ev.step (fun k=>by rw [spec_tiStretches.l1,if_neg o_m]) hr
  rw [if_pos ho] at hr
  rw [decide_eq_true (show b + 1 < lnK w h d by omega),ho,Bool.true_and,if_pos rfl]
  have hp:=(pos_lt hd ha (show b + 1 < lnK w h d by omega)).2.2
  have hA:=tiAhead_eq hw hh hl hp (d:=(d + 2) % 4) o_m
  rw [back_pos hd ha (show b + 1 < lnK w h d by omega)] at hA
  refine Ev.step (fun k=>?_) (follow_l1 x5 x13 x14 x15 r ha n (b + 1) (x8 ++ [pos w h d a (b + 1)]) o_m (by rw [List.length_append];simp;omega) (by rw [List.append_assoc];exact hr))
  rw [spec_tiStretches.l1,if_pos o_m,if_pos (by rw [castsI_length];omega),opp_eq hd,hA,Option.bind_some,casts_app,casts_one];rfl
end
theorem rows_at (L:List (List Nat)) (i:Nat) (h:i < L.length):rd_L3 (L.map castsI) (i:Int) = castsI (L[i]'h):=by
 unfold rd_L3
 rw [Int.toNat_natCast,List.getD_eq_getElem?_getD,List.getElem?_map,List.getElem?_eq_getElem h];rfl
theorem place_l2 {w h d:Nat} {cs:List Int} (x13:List Int) (x14 x15:Int) (r:List (List Int)) (st:List Nat) (hne:st ≠ []) (hst:st.length < 1000000):∀ (rest pre:List (List Nat)),pre.length + rest.length < 1000000 → (∀ y ∈ rest,y ≠ [] ∧ y.length < 1000000) →
  Ev (fun k=>spec_tiStretches.l0 k d ((pre ++ insK st rest).map castsI) x13 x14 (wrap64 (x15 + 1)) w h cs) r →
  Ev (fun k=>spec_tiStretches.l2 k d ((pre ++ rest).map castsI) (castsI st) (pre.length:Int) x13 x14 x15 w h cs) r
 | [],pre,hlen,_,hr=>by
  refine Ev.step (fun k=>?_) hr
  have e1:((pre ++ []).map castsI).take ((pre.length:Int)).toNat = pre.map castsI:=by rw [List.append_nil,Int.toNat_natCast,List.take_of_length_le (by simp)]
  have e2:((pre ++ []).map castsI).drop ((pre.length:Int)).toNat = []:=by rw [List.append_nil,Int.toNat_natCast,List.drop_eq_nil_of_le (by simp)]
  simp only [List.length_nil,Nat.add_zero] at hlen
  rw [spec_tiStretches.l2,if_neg (by simp),Option.bind_some,if_pos o_m,if_pos (by simp),e1,e2,Option.bind_some,if_pos (by simp;omega),Option.bind_some,if_pos (by simp;omega),Option.bind_some,Option.bind_some,if_pos (by simp;omega)]
  simp [insK]
 | y :: ys,pre,hlen,hall,hr=>by
  have hL:((pre ++ y :: ys).map castsI).length = pre.length + ys.length + 1:=by simp;omega
  simp only [List.length_cons] at hlen
  have hy:=hall y List.mem_cons_self
  have hrow:rd_L3 ((pre ++ y :: ys).map castsI) (pre.length:Int) = castsI y:=by
   rw [rows_at _ _ (by simp)]
   congr 1
   simp
  have hstep:∀ k,spec_tiStretches.l2 (k + 1) d ((pre ++ y :: ys).map castsI) (castsI st) (pre.length:Int) x13 x14 x15 w h cs =
    (spec_tiFirst.f k (castsI y)).bind fun t113=>(spec_tiFirst.f k (castsI st)).bind fun t114=>if t113 < t114 then spec_tiStretches.l2 k d ((pre ++ y :: ys).map castsI) (castsI st) ((pre.length + 1:Nat):Int) x13 x14 x15 w h cs else spec_tiStretches.l0 k d ((pre ++ (st :: y :: ys)).map castsI) x13 x14 (wrap64 (x15 + 1)) w h cs:=by
   intro k
   have e1:((pre ++ y :: ys).map castsI).take ((pre.length:Int)).toNat = pre.map castsI:=by rw [Int.toNat_natCast,List.map_append,List.take_left' (by simp)]
   have e2:((pre ++ y :: ys).map castsI).drop ((pre.length:Int)).toNat = (y :: ys).map castsI:=by rw [Int.toNat_natCast,List.map_append,List.drop_left' (by simp)]
   rw [spec_tiStretches.l2,if_pos o_m,if_pos o_m,hrow]
   congr 1
   funext t113
   congr 1
   funext t114
   by_cases ht:t113 < t114
   ·rw [if_pos ht,if_pos ht,w64 o_m o_m];rfl
   rw [if_neg ht,if_neg ht,Option.bind_some,if_pos o_m,e1,e2,Option.bind_some,if_pos (by simp;omega),Option.bind_some,if_pos (by simp;omega),Option.bind_some,Option.bind_some,if_pos (by simp;omega)]
   simp
  refine Ev.step hstep (Ev.bind (tiFirst_ev hy.1 hy.2) (Ev.bind (tiFirst_ev hne hst) ?_))
  unfold insK at hr
  by_cases hlt:leastL y < leastL st
  rotate_left
  ·rw [if_neg hlt] at hr
   exact Ev.congr (fun k=>if_neg o_m) hr
  rw [if_pos hlt] at hr
  refine Ev.congr (fun k=>if_pos o_m) ?_
  have:=place_l2 x13 x14 x15 r st hne hst ys (pre ++ [y]) (by simp;omega) (fun z hz=>hall z (List.mem_cons_of_mem _ hz)) (by rw [List.append_assoc];exact hr)
  rw [List.append_assoc,List.length_append] at this
  exact this
theorem tail_head {w h d i:Nat} {cs:List Int} (hd:d < 4) (hi:i < w * h) (ho:openAt cs i = true):tailD w h d cs i = i :: restD w h d cs (lnA w d i) (lnB w h d i + 1):=by
 obtain ⟨h1,h2,h3⟩:=inv_pos hd hi
 show restD w h d cs (lnA w d i) (lnB w h d i) = _
 rw [restD_cons h2,h3,if_pos ho]
section
variable {w h d:Nat} {cs:List Int} (hw:1 ≤ w ∧ w ≤ 7) (hh:1 ≤ h ∧ h ≤ 7) (hl:cs.length = w * h) (hd:d < 4)
include hw hh hl hd
theorem cells_l0:∀ (n i:Nat) (out:List (List Nat)),i + n = w * h → out.length ≤ i → (∀ y ∈ out,y ≠ [] ∧ y.length < 1000000) →
  Ev (fun k=>spec_tiStretches.l0 k d (out.map castsI) cs (cs.length:Int) i w h cs) (((((List.range' i n).filter (endD w h d cs)).map (tailD w h d cs)).foldl (fun o x=>insK x o) out).map castsI)
 | 0,i,out,hi,ho,hall=>Ev.step (fun k=>by rw [spec_tiStretches.l0,if_neg o_m];rfl) (Ev.now _)
 | n + 1,i,out,hi,ho,hall=>by
  have h49:w * h ≤ 7 * 7:=Nat.mul_le_mul hw.2 hh.2
  have hil:i < w * h:=by omega
  have hK:=lnK_le (d:=d) hw.2 hh.2
  obtain ⟨q1,q2,q3⟩:=inv_pos hd hil
  have HWR:Aside0 (wrap64 ((i:Int) + 1) = ((i + 1:Nat):Int)):=⟨by rw [w64 o_m o_m];rfl⟩
  have hrd:rd cs (i:Int) = cs.getD i 0:=by unfold rd;rw [Int.toNat_natCast]
  have hend:=end_ahead hd hil cs
  have hA:=tiAhead_eq hw hh hl hil hd
  have hB:=tiAhead_eq hw hh hl hil (d:=(d + 2) % 4) o_m
  have hback:=back_pos hd q1 q2 cs
  rw [q3] at hback
  rw [hback] at hB
  have hskip:endD w h d cs i = false → Ev (fun k=>spec_tiStretches.l0 k d (out.map castsI) cs (cs.length:Int) ((i + 1:Nat):Int) w h cs) (((((List.range' i (n + 1)).filter (endD w h d cs)).map (tailD w h d cs)).foldl (fun o x=>insK x o) out).map castsI):=fun he=>by
   rw [List.range'_succ,List.filter_cons,he,if_neg Bool.false_ne_true]
   exact cells_l0 n (i + 1) out o_m o_m hall
  by_cases h35:cs.getD i 0 = 35
  ·have hop:openAt cs i = false:=by unfold openAt isOpenC;rw [h35];rfl
   have he:endD w h d cs i = false:=by rw [hend,hop,Bool.false_and]
   refine Ev.step (f:=fun k=>spec_tiStretches.j1 k d (out.map castsI) i cs (cs.length:Int) i true w h cs) (fun k=>by rw [spec_tiStretches.l0,if_pos o_m,if_pos o_m,if_pos o_m,hrd,if_pos h35]) ?_
   exact Ev.step (fun k=>by rw [spec_tiStretches.j1,if_pos rfl,HWR.out]) (hskip he)
  have hop:openAt cs i = true:=by unfold openAt isOpenC;simpa using h35
  rw [hop,Bool.true_and] at hend
  refine Ev.step (f:=fun k=>spec_tiStretches.j1 k d (out.map castsI) i cs (cs.length:Int) i (decide (aheadI w h cs i d ≥ 0)) w h cs) (fun k=>by rw [spec_tiStretches.l0,if_pos o_m,if_pos o_m,if_pos o_m,hrd,if_neg h35,hA,Option.bind_some]) ?_
  by_cases hah:aheadI w h cs i d ≥ 0
  ·have he:endD w h d cs i = false:=by rw [hend];exact decide_eq_false o_m
   rw [decide_eq_true hah]
   exact Ev.step (fun k=>by rw [spec_tiStretches.j1,if_pos rfl,HWR.out]) (hskip he)
  have he:endD w h d cs i = true:=by rw [hend];exact decide_eq_true o_m
  rw [decide_eq_false hah]
  refine Ev.step (f:=fun k=>spec_tiStretches.l1 k d (out.map castsI) (castsI [i]) (nxtI w h d cs (lnA w d i) (lnB w h d i)) cs (cs.length:Int) i w h cs) (fun k=>by
   rw [spec_tiStretches.j1,if_neg Bool.false_ne_true,opp_eq hd,hB,Option.bind_some];rfl) ?_
  refine follow_l1 hw hh hl hd (out.map castsI) cs (cs.length:Int) i _ q1 (lnK w h d - 1 - lnB w h d i) (lnB w h d i) [i] o_m (by simp) ?_
  have ht:=tail_head hd hil hop
  rw [show [i] ++ restD w h d cs (lnA w d i) (lnB w h d i + 1) = tailD w h d cs i from ht.symm]
  have htl:(tailD w h d cs i).length < 1000000:=by
   have:=restD_length w h d (lnA w d i) (lnB w h d i + 1) cs
   rw [ht,List.length_cons];omega
  have htn:tailD w h d cs i ≠ []:=by rw [ht];exact List.cons_ne_nil _ _
  refine place_l2 (d:=d) cs (cs.length:Int) i _ (tailD w h d cs i) htn htl out [] (by simp;omega) hall ?_
  rw [List.nil_append,HWR.out,List.range'_succ,List.filter_cons,he,if_pos rfl,List.map_cons,List.foldl_cons]
  have hp:=insK_perm (tailD w h d cs i) out
  refine cells_l0 n (i + 1) (insK (tailD w h d cs i) out) o_m (by rw [hp.length_eq,List.length_cons];omega) (fun y hy=>?_)
  rcases List.mem_cons.1 (hp.mem_iff.1 hy) with rfl | hy
  ·exact ⟨htn,htl⟩
  ·exact hall y hy
theorem tiStretches_ev:Ev (fun k=>spec_tiStretches.f k w h cs d) ((strD w h d cs).map castsI):=by
 have h0:=cells_l0 hw hh hl hd (w * h) 0 [] o_m (by simp) (fun y hy=>by cases hy)
 rw [← List.range_eq_range'] at h0
 exact h0
end
end Go.Proofs.YtldhkbiomingbaaGreatDoor

namespace Go.Proofs.YtldhkbiomingbaaGreatDoor
open Go.RowKit Go.YW.PrintWords Go.YW.PrintLast Go.YW.PrintMore Go.Lib Go.Proofs.YtldhkbiomingbaaGreatDoor.F
def gridI (a0 a1:Int) (l:List Int):Prop:=(1 ≤ a0 ∧ a0 ≤ 7) ∧ (1 ≤ a1 ∧ a1 ≤ 7) ∧ l.length = a0.toNat * a1.toNat
instance (a0 a1:Int) (l:List Int):Decidable (gridI a0 a1 l):=by unfold gridI;exact inferInstance
theorem gridI_nat {w h:Nat} {cs:List Int} (hw:1 ≤ w ∧ w ≤ 7) (hh:1 ≤ h ∧ h ≤ 7) (hl:cs.length = w * h):gridI w h cs:=⟨by omega,by omega,by rw [Int.toNat_natCast,Int.toNat_natCast];exact hl⟩
theorem strD_facts {w h d:Nat} {cs:List Int} (hw:1 ≤ w ∧ w ≤ 7) (hh:1 ≤ h ∧ h ≤ 7) (hl:cs.length = w * h) (hd:d < 4) :
  (0 < cs.length ∧ cs.length < 65536) ∧ (∀ st ∈ strD w h d cs,∀ i ∈ st,i < cs.length) ∧ (strD w h d cs).flatten.length < 65536 ∧ (strD w h d cs).length < 65536 ∧ (∀ st ∈ strD w h d cs,st.length < 65536):=by
 have h49:w * h ≤ 7 * 7:=Nat.mul_le_mul hw.2 hh.2
 have h1:0 < w * h:=Nat.mul_pos o_m o_m
 have hf:(strD w h d cs).flatten.length ≤ w * h:=by
  rw [(strD_cells hd cs).length_eq]
  exact Nat.le_trans (List.length_filter_le _ _) (by rw [List.length_range];exact Nat.le_refl _)
 have hne:=strD_ne hd (w:=w) (h:=h) (cs:=cs)
 have len:∀ S:List (List Nat),(∀ st ∈ S,st ≠ []) → S.length ≤ S.flatten.length ∧ ∀ st ∈ S,st.length ≤ S.flatten.length:=fun S=>by
  induction S with
  | nil=>intro _;exact ⟨Nat.le_refl _,fun st h=>by cases h⟩
  | cons a S ih =>
   intro hs
   obtain ⟨i1,i2⟩:=ih (fun st h=>hs st (List.mem_cons_of_mem _ h))
   have ha:0 < a.length:=List.length_pos_iff.2 (hs a List.mem_cons_self)
   rw [List.flatten_cons,List.length_append,List.length_cons]
   refine ⟨by omega,fun st h=>?_⟩
   rcases List.mem_cons.1 h with rfl | h
   ·omega
   ·have:=i2 st h;omega
 obtain ⟨l1,l2⟩:=len _ hne
 refine ⟨⟨by rw [hl];exact h1,by rw [hl];omega⟩,fun st hs i hi=>by rw [hl];exact (strD_Str hd cs).lt st hs i hi,by omega,by omega,fun st hs=>?_⟩
 have:=l2 st hs
 omega
def spec_tiTilt.f (a0 a1:Int) (l:List Int) (d:Int):Option (Int × Int × List Int):=if gridI a0 a1 l ∧ 0 ≤ d ∧ d < 4 then some (a0,a1,tiltD a0.toNat a1.toNat d.toNat l) else none
theorem spec_tiTilt_eq {w h d:Nat} {cs:List Int} (hw:1 ≤ w ∧ w ≤ 7) (hh:1 ≤ h ∧ h ≤ 7) (hl:cs.length = w * h) (hd:d < 4):spec_tiTilt.f w h cs d = some ((w:Int),(h:Int),tiltD w h d cs):=if_pos ⟨gridI_nat hw hh hl,by omega,by omega⟩
theorem spec_tiTilt.calls (a0_0 a0_1:Int) (A0_2:Option Addr) (c0_2:Nat) (l0_2:List Int) (a1:Int) (r1 r2:Int) (r3:List Int) (w:World) (hr0_2:Kd.C (Kd.int .u8) w A0_2 l0_2.length l0_2) (hc0_2:l0_2.length ≤ c0_2) (h:spec_tiTilt.f a0_0 a0_1 l0_2 a1 = some (r1,r2,r3)) :
  Calls Tryz.prog 100 #[.agg #[.int .i64 a0_0,.int .i64 a0_1,.slice A0_2 l0_2.length c0_2],.int .i64 a1] w fun e w'=>∃ v2_:Value,e = .returned (.agg #[.int .i64 r1,.int .i64 r2,v2_]) ∧ Kd.R (Kd.int .u8) 5 w' w.heap.size (fun _=>True) v2_ r3 ∧ Below w.heap.size w w':=by
 unfold spec_tiTilt.f at h
 split at h
 case isFalse=>cases h
 rename_i hc
 obtain ⟨⟨hw,hh,hl⟩,hd0,hd4⟩:=hc
 injection h with h
 injection h with h1 h
 injection h with h2 h3
 subst h1 h2 h3
 obtain ⟨W,rfl⟩:∃ n:Nat,a0_0 = n:=⟨a0_0.toNat,by omega⟩
 obtain ⟨H,rfl⟩:∃ n:Nat,a0_1 = n:=⟨a0_1.toNat,by omega⟩
 obtain ⟨d,rfl⟩:∃ n:Nat,a1 = n:=⟨a1.toNat,by omega⟩
 simp only [Int.toNat_natCast] at hl ⊢
 have hw':1 ≤ W ∧ W ≤ 7:=by omega
 have hh':1 ≤ H ∧ H ≤ 7:=by omega
 have hd':d < 4:=by omega
 obtain ⟨f1,f2,f3,f4,f5⟩:=strD_facts hw' hh' hl hd'
 obtain ⟨k,hk⟩:=Ev.rounds (tiStretches_ev hw' hh' hl hd')
 refine tiTilt_calls W H d A0_2 c0_2 l0_2 (strD W H d l0_2) w hr0_2 hc0_2 f1 f2 f4 f5 (fun W' hW=>?_)
 exact spec_tiStretches.calls k W H A0_2 c0_2 l0_2 d _ W' (Kd.C_below hr0_2 hW) hc0_2 hk
end Go.Proofs.YtldhkbiomingbaaGreatDoor
