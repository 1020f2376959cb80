/- The proof that the law's row holds, part 8: the kit's words, the printed walks and the plain law. No conditions beyond the card's own. -/
import Derived.Test.YtldhkbiomingbaaGreatDoorK0
import Derived.Test.YtldhkbiomingbaaGreatDoorK1
import Derived.Test.YtldhkbiomingbaaGreatDoorK2
import Derived.Test.YtldhkbiomingbaaGreatDoorK3
import Derived.Test.YtldhkbiomingbaaGreatDoorK4
import Derived.Test.YtldhkbiomingbaaGreatDoorK5
import Derived.Test.YtldhkbiomingbaaGreatDoorK6
import Derived.Test.YtldhkbiomingbaaGreatDoorK7
set_option linter.unusedVariables false
set_option linter.unusedSimpArgs false
set_option maxHeartbeats 8000000
set_option maxRecDepth 100000
namespace Go.Proofs.YtldhkbiomingbaaGreatDoor.F
open Go.Proofs.YtldhkbiomingbaaGreatDoor
open Go.RowKit Go.YW.PrintWords Go.YW.PrintLast Go.YW.PrintMore
attribute [local go_sem] max2_int min2_int max_two min_two max_three min_three max_four min_four
def laws_heldStringS.l0:Nat → List ByteArray → Int → Int → Option (Int)
 | 0,_,_,_=>none
 | k + 1,x0,x1,x5=>if x5 < (x0.length:Int) then (if 0 ≤ x5 then ((laws_markText.f k x1).bind fun t102=>(if (rdOf ByteArray.empty x0 x5).toList = t102.toList then (laws_heldStringS.l0 k x0 (wrap64 (x1 + 1)) (wrap64 (x5 + 1))) else (some (-1)))) else (none)) else (some x1)
def laws_heldStringS.f (k:Nat) (l0:List ByteArray) (a1:Int):Option (Int):=laws_heldStringS.l0 k l0 a1 0
theorem laws_heldStringS.mono_l:∀ k,(∀ y0 y1 y2,LeO (laws_heldStringS.l0 k y0 y1 y2) (laws_heldStringS.l0 (k + 1) y0 y1 y2))
 | 0=>fun _ _ _ r h=>by simp [laws_heldStringS.l0] at h
 | k + 1=>by
  have ih0:=laws_heldStringS.mono_l k
  ·intro y0 y1 y2
   unfold laws_heldStringS.l0
   have im0:=@laws_markText.mono;exact mo
theorem laws_heldStringS.mono:∀ a0 a1 k,LeO (laws_heldStringS.f k a0 a1) (laws_heldStringS.f (k + 1) a0 a1):=by
 intro a0 a1 k
 have ih0:=laws_heldStringS.mono_l k
 unfold laws_heldStringS.f
 have im0:=@laws_markText.mono;exact mo
theorem laws_heldStringS.calls (k:Nat) (A0:Option Addr) (c0:Nat) (l0:List ByteArray) (a1:Int) (r:Int) (w:World) (hr0:Kd.C Kd.string w A0 l0.length l0) (hc0:l0.length ≤ c0) (h:laws_heldStringS.f k l0 a1 = some r) :
  Calls Tryz.prog 28 #[.slice A0 l0.length c0,.int .i64 a1] w fun e w'=>e = .returned (.int .i64 r) ∧ Below w.heap.size w w':=by
 have HR0:=am hr0
 have HC0:=am hc0
 clear hr0 hc0
 have HB:=am (Below.refl w.heap.size w)
 have H:(laws_heldStringS.l0 k l0 a1 0) = some r:=h
 clear h
 have H':=am H
 clear H
 go_enter Tryz.func28,Tryz.ntmps28
 go_wp2
 go_loopg [1,5] k (fun kq v1 v5 w'=>∃ (x1_1:Int) (x5_1:Int),v1 = .int .i64 x1_1 ∧ v5 = .int .i64 x5_1 ∧ Aside0 (laws_heldStringS.l0 kq l0 x1_1 x5_1 = some r) ∧ Aside0 (kq ≤ k) ∧ Aside0 (Below w.heap.size w w'))
 case atStart=>exact ⟨(a1),(0),aq7,aq7,H',⟨Nat.le_refl _⟩,⟨aq2⟩⟩
 case round =>
  clear H'
  try clear c2
  try clear p2
  obtain ⟨x1_1,x5_1,rfl,rfl,HA,HK1,HB⟩:=hrel
  cases gk with
  | zero=>exact absurd HA.out (by simp [laws_heldStringS.l0])
  | succ k1 =>
   have H:=HA.out
   clear HA
   simp only [laws_heldStringS.l0] at H
   by_cases c3:x5_1 < (l0.length:Int)
   rotate_left
   ·rw [if_neg c3] at H
    have c3b0:=decide_eq_false c3
    clear c3
    obtain rfl:=Option.some.inj H
    go_wp2
    go_ret
    exact ⟨aq8,aq2⟩
   rw [if_pos c3] at H
   have c3b0:=decide_eq_true c3
   clear c3
   replace H:=gd H
   obtain ⟨c4,H⟩:=H
   have c4b0:=decide_eq_true c4
   clear c4
   obtain ⟨t102,A5,H⟩:=bn H
   by_cases c6:(rdOf ByteArray.empty l0 x5_1).toList = t102.toList
   rotate_left
   ·rw [if_neg c6] at H
    have c6b0:=beq_eq_false_iff_ne.mpr c6
    have c6b1:=bne_iff_ne.mpr c6
    obtain rfl:=Option.some.inj H
    try go_wp2
    replace HB:=am (below_drew1 HB.out)
    have p101:0 ≤ (x5_1:Int):=of_decide_eq_true aq4
    have q101:x5_1 < (l0.length:Int):=of_decide_eq_true aq4
    obtain ⟨ad101,e101,hx101_0⟩:=Kd.at_string HR0.out x5_1 p101 q101
    have hw101_0:=hx101_0
    cases e101
    try replace hx101_0:=(HB.out.cell (World.block_lt_of_cell? w _ hx101_0)).trans hx101_0
    replace p101:=eq_true p101
    replace q101:=eq_true q101
    refine start_ (n:=7) (S:=fun w'=>w'.cell? (ad101.add (x5_1).toNat) = some (.string (rdOf ByteArray.empty l0 x5_1))) (ds:=[]) (bm 7 0) k_r rfl rfl (((HB.out.cell (World.block_lt_of_cell? w _ hw101_0)).trans hw101_0)) (fun hHeld=>?_)
    generalize wr.drew = w9 at HB hx101_0 hHeld ⊢
    refine py0 (i:=0) (N:=some 12) (bm 7 1) ?_
    refine py0 (i:=1) (N:=some 13) (bm 7 3) ?_
    refine py0 (i:=2) (N:=some 14) (bm 7 7) ?_
    refine py0 (i:=4) (N:=some 16) (bm 7 23) ?_
    refine take_ (i:=3) (N:=some 15) (v:=?_) (a':=?_) (bm 7 31) rfl rfl k_r (fun _ _ _ h=>h) (Or.inl ⟨by rfl,?_⟩) hHeld ?_ ?_
    rotate_left
    ·intro w' s0
     go_simp
     with_reducible rfl
    rotate_left
    ·simp only [Act.put,ac_]
     rfl
    refine one_ (i:=5) (N:=some 17) (bm 7 63) rfl rfl k_r d_c (fun K hK=>?_)
    refine goes_ Tryz.func62 k_r rfl #[.int .i64 x1_1] (by rfl) rfl rfl aq6 ?_
    with_reducible refine (laws_markText.calls k1 x1_1 t102 _ A5.out).mono ?_
    rintro e w10 ⟨rfl,hb⟩
    refine ⟨_,rfl,?_⟩
    replace HB:=am (below_step aq2 hb)
    (try clear hb)
    refine hK.out _ _ (((HB.out.cell (World.block_lt_of_cell? w _ hw101_0)).trans hw101_0)) (fun hHeld=>?_)
    clear hK K
    refine nm (some 17) ?_
    refine py0 (i:=6) (N:=some 18) (bm 7 127) ?_
    refine done_ k_r ?_
    try go_wp2
    go_ret
    exact ⟨aq8,aq2⟩
   rw [if_pos c6] at H
   have c6b0:=beq_iff_eq.mpr c6
   have c6b1:=bne_eq_false_iff_eq.mpr c6
   clear c6
   have H':=am H
   clear H
   try go_wp2
   replace HB:=am (below_drew1 HB.out)
   have p101:0 ≤ (x5_1:Int):=of_decide_eq_true aq4
   have q101:x5_1 < (l0.length:Int):=of_decide_eq_true aq4
   obtain ⟨ad101,e101,hx101_0⟩:=Kd.at_string HR0.out x5_1 p101 q101
   have hw101_0:=hx101_0
   cases e101
   try replace hx101_0:=(HB.out.cell (World.block_lt_of_cell? w _ hx101_0)).trans hx101_0
   replace p101:=eq_true p101
   replace q101:=eq_true q101
   refine start_ (n:=7) (S:=fun w'=>w'.cell? (ad101.add (x5_1).toNat) = some (.string (rdOf ByteArray.empty l0 x5_1))) (ds:=[]) (bm 7 0) k_r rfl rfl (((HB.out.cell (World.block_lt_of_cell? w _ hw101_0)).trans hw101_0)) (fun hHeld=>?_)
   generalize wr.drew = w7 at HB hx101_0 hHeld ⊢
   refine py0 (i:=0) (N:=some 12) (bm 7 1) ?_
   refine py0 (i:=1) (N:=some 13) (bm 7 3) ?_
   refine py0 (i:=2) (N:=some 14) (bm 7 7) ?_
   refine py0 (i:=4) (N:=some 16) (bm 7 23) ?_
   refine take_ (i:=3) (N:=some 15) (v:=?_) (a':=?_) (bm 7 31) rfl rfl k_r (fun _ _ _ h=>h) (Or.inl ⟨by rfl,?_⟩) hHeld ?_ ?_
   rotate_left
   ·intro w' s0
    go_simp
    with_reducible rfl
   rotate_left
   ·simp only [Act.put,ac_]
    rfl
   refine one_ (i:=5) (N:=some 17) (bm 7 63) rfl rfl k_r d_c (fun K hK=>?_)
   refine goes_ Tryz.func62 k_r rfl #[.int .i64 x1_1] (by rfl) rfl rfl aq6 ?_
   with_reducible refine (laws_markText.calls k1 x1_1 t102 _ A5.out).mono ?_
   rintro e w8 ⟨rfl,hb⟩
   refine ⟨_,rfl,?_⟩
   replace HB:=am (below_step aq2 hb)
   (try clear hb)
   refine hK.out _ _ (((HB.out.cell (World.block_lt_of_cell? w _ hw101_0)).trans hw101_0)) (fun hHeld=>?_)
   clear hK K
   refine nm (some 17) ?_
   refine py0 (i:=6) (N:=some 18) (bm 7 127) ?_
   refine done_ k_r ?_
   try go_wp2
   go_roundg k1
   case measure=>have:=HK1.out;omega
   case rel=>exact ⟨(wrap64 (x1_1 + 1)),(wrap64 (x5_1 + 1)),aq7,aq7,H',⟨aq70⟩,⟨aq2⟩⟩
end Go.Proofs.YtldhkbiomingbaaGreatDoor.F

namespace Go.Proofs.YtldhkbiomingbaaGreatDoor.F
open Go.RowKit Go.Proofs.YtldhkbiomingbaaGreatDoor Go.YW.PrintWords Go.YW.PrintMore
theorem eqL_l0 (l:List ByteArray) (hl:l.length ≤ 4611686018427387904):∀ (n i:Nat),i + n = l.length → Ev (fun k=>laws_eqStringS.l0 k l l (i:Int)) true
 | 0,i,hi=>Ev.step (fun k=>by rw [laws_eqStringS.l0,if_neg o_m]) (Ev.now _)
 | n + 1,i,hi=>by
  have HW:Aside0 (wrap64 ((i:Int) + 1) = ((i + 1:Nat):Int)):=⟨by rw [w64 o_m o_m];rfl⟩
  refine Ev.step (fun k=>?_) (eqL_l0 l hl n (i + 1) o_m)
  rw [laws_eqStringS.l0,if_pos o_m,if_pos o_m,if_pos o_m,if_pos rfl,HW.out]
theorem eqL_ev (l:List ByteArray) (hl:l.length ≤ 4611686018427387904):Ev (fun k=>laws_eqStringS.f k l l) true :=
 Ev.congr (fun k=>by rw [laws_eqStringS.f,if_pos rfl];rfl) (eqL_l0 l hl l.length 0 o_m)
theorem markTextL_l0:∀ (d n:Nat) (acc:ByteArray),n < 10 ^ d → n < 5000000000000000000 → acc.size + d < 1000000 → ∃ t,Ev (fun k=>laws_markText.l0 k (n:Int) acc) t
 | 0,n,acc,h,_,_=>by
  obtain rfl:n = 0:=by omega
  exact ⟨_,Ev.step (fun k=>by rw [laws_markText.l0,if_neg d_c,if_pos o_m]) (Ev.now _)⟩
 | d + 1,n,acc,h,hd,ha=>by
  by_cases h0:n = 0
  ·subst h0
   exact ⟨_,Ev.step (fun k=>by rw [laws_markText.l0,if_neg d_c,if_pos o_m]) (Ev.now _)⟩
  have e1:Int.tdiv (n:Int) 10 = ((n / 10:Nat):Int):=rfl
  have hlt:n / 10 < 10 ^ d:=by rw [Nat.pow_succ] at h;omega
  have hsz:(strOfNums [(wrap64 (48 + (Int.tmod (n:Int) 10))) % 256]).size = 1:=rfl
  obtain ⟨t,ht⟩:=markTextL_l0 d (n / 10) (strOfNums [(wrap64 (48 + (Int.tmod (n:Int) 10))) % 256] ++ acc) hlt o_m (by rw [ByteArray.size_append,hsz];omega)
  have HW:Aside0 (wrap64 ((n / 10:Nat):Int) = ((n / 10:Nat):Int)):=⟨w64 o_m o_m⟩
  refine ⟨t,Ev.step (fun k=>?_) ht⟩
  rw [laws_markText.l0,if_pos o_m,Option.bind_some,if_pos (by rw [hsz];omega),e1,HW.out]
theorem markTextL_ex (n:Nat) (hn:n < 5000000000000000000):∃ t,Ev (fun k=>laws_markText.f k (n:Int)) t:=by
 by_cases h0:n = 0
 ·subst h0;exact ⟨_,Ev.congr (fun k=>by rw [laws_markText.f,if_pos d_c]) (Ev.now _)⟩
 obtain ⟨t,ht⟩:=markTextL_l0 20 n (⟨#[]⟩:ByteArray) o_m hn (by show 0 + 20 < _;omega)
 exact ⟨t,Ev.congr (fun k=>by rw [laws_markText.f,if_neg o_m]) ht⟩
noncomputable def mkL (n:Nat):ByteArray:=if h:n < 5000000000000000000 then Classical.choose (markTextL_ex n h) else ByteArray.empty
theorem mkL_ev {n:Nat} (hn:n < 5000000000000000000):Ev (fun k=>laws_markText.f k (n:Int)) (mkL n):=by
 unfold mkL;rw [dif_pos hn];exact Classical.choose_spec (markTextL_ex n hn)
noncomputable def marksL (m n:Nat):List ByteArray:=(List.range n).map fun j=>mkL (m + j)
theorem marksL_length (m n:Nat):(marksL m n).length = n:=by simp [marksL]
theorem markL_l0 (l:List ByteArray) (m:Nat) (hl:l.length ≤ 4611686018427387904) (hm:m ≤ 1000):∀ (n i:Nat),i + n = l.length →
  Ev (fun k=>laws_markStringS.l0 k (marksL m i ++ l.drop i) ((m + i:Nat):Int) (i:Int)) (((m + l.length:Nat):Int),marksL m l.length)
 | 0,i,hi=>by
  obtain rfl:i = l.length:=by omega
  rw [List.drop_eq_nil_of_le (Nat.le_refl _),List.append_nil]
  exact Ev.step (fun k=>by rw [laws_markStringS.l0,if_neg (by rw [marksL_length];omega)]) (Ev.now _)
 | n + 1,i,hi=>by
  have hil:i < l.length:=by omega
  have HW:Aside0 (wrap64 ((i:Int) + 1) = ((i + 1:Nat):Int)):=⟨by rw [w64 o_m o_m];rfl⟩
  have HM:Aside0 (wrap64 (((m + i:Nat):Int) + 1) = ((m + (i + 1):Nat):Int)):=⟨by rw [w64 o_m o_m];omega⟩
  have hset:(marksL m i ++ l.drop i).set i (mkL (m + i)) = marksL m (i + 1) ++ l.drop (i + 1):=by
   rw [List.set_append_right _ _ (by rw [marksL_length];exact Nat.le_refl _),marksL_length,Nat.sub_self,List.drop_eq_getElem_cons hil,List.set_cons_zero]
   unfold marksL
   rw [List.range_succ,List.map_append,List.append_assoc];rfl
  have ih:=markL_l0 l m hl hm n (i + 1) o_m
  refine Ev.step (f:=fun k=>(laws_markText.f k ((m + i:Nat):Int)).bind fun t=>laws_markStringS.l0 k ((marksL m i ++ l.drop i).set i t) ((m + (i + 1):Nat):Int) ((i + 1:Nat):Int)) (fun k=>?_) (Ev.bind (mkL_ev o_m) (by rw [hset];exact ih))
  rw [laws_markStringS.l0,if_pos (by rw [List.length_append,marksL_length,List.length_drop];omega),HW.out,HM.out]
  congr 1
theorem markL_ev (l:List ByteArray) (hl:l.length ≤ 4611686018427387904):Ev (fun k=>laws_markStringS.f k l 1) (((1 + l.length:Nat):Int),marksL 1 l.length):=by
 have h0:=markL_l0 l 1 hl o_m l.length 0 o_m
 exact h0
theorem heldL_l0 (m n:Nat) (hn:n ≤ 4611686018427387904) (hm:m ≤ 1000):∀ (d i:Nat),i + d = n → Ev (fun k=>laws_heldStringS.l0 k (marksL m n) ((m + i:Nat):Int) (i:Int)) ((m + n:Nat):Int)
 | 0,i,hi=>by
  obtain rfl:i = n:=by omega
  exact Ev.step (fun k=>by rw [laws_heldStringS.l0,if_neg (by rw [marksL_length];omega)]) (Ev.now _)
 | d + 1,i,hi=>by
  have HW:Aside0 (wrap64 ((i:Int) + 1) = ((i + 1:Nat):Int)):=⟨by rw [w64 o_m o_m];rfl⟩
  have HM:Aside0 (wrap64 (((m + i:Nat):Int) + 1) = ((m + (i + 1):Nat):Int)):=⟨by rw [w64 o_m o_m];omega⟩
  have hget:rdOf ByteArray.empty (marksL m n) (i:Int) = mkL (m + i):=by
   unfold rdOf marksL
   rw [Int.toNat_natCast,List.getD_eq_getElem?_getD,List.getElem?_map,List.getElem?_range o_m];rfl
  refine Ev.step (f:=fun k=>(laws_markText.f k ((m + i:Nat):Int)).bind fun t=>if (mkL (m + i)).toList = t.toList then laws_heldStringS.l0 k (marksL m n) ((m + (i + 1):Nat):Int) ((i + 1:Nat):Int) else some (-1)) (fun k=>?_) (Ev.bind (mkL_ev o_m) (Ev.congr (fun k=>if_pos rfl) (heldL_l0 m n hn hm d (i + 1) o_m)))
  rw [laws_heldStringS.l0,if_pos (by rw [marksL_length];omega),if_pos o_m,HW.out,HM.out,hget]
theorem heldL_ev (n:Nat) (hn:n ≤ 4611686018427387904):Ev (fun k=>laws_heldStringS.f k (marksL 1 n) 1) ((1 + n:Nat):Int):=by
 have h0:=heldL_l0 1 n hn o_m n 0 o_m
 exact h0
end Go.Proofs.YtldhkbiomingbaaGreatDoor.F

namespace Go.Proofs.YtldhkbiomingbaaGreatDoor.F
open Go.Proofs.YtldhkbiomingbaaGreatDoor
open Go.RowKit Go.YW.PrintWords Go.YW.PrintLast Go.YW.PrintMore
attribute [local go_sem] max2_int min2_int max_two min_two max_three min_three max_four min_four
mutual
def laws_FnExactAllSolutions.j0:Nat → List ByteArray → Bool → List ByteArray → Bool → ByteArray → ByteArray → Int → Option (Bool)
 | 0,_,_,_,_,_,_,_=>none
 | k + 1,x4,x5,x6,x37,x102000,x102001,x102002=>if x37 = true then (some false) else ((laws_markStringS.f k x6 1).bind fun bt118=>((laws_heldStringS.f k bt118.2 1).bind fun t120=>(if t120 < 0 then (some false) else (if t120 = bt118.1 then ((laws_toPuzzle.f x102000 x102001 x102002).bind fun bt121=>((impl_AllSolutions.f bt121.1 bt121.2.1 bt121.2.2).bind fun bt124=>((laws_eqStringS.f k bt124.1 x4).bind fun t128=>(if t128 = true then (laws_FnExactAllSolutions.j1 k bt118.2 bt118.1 (bt124.2 != x5)) else (laws_FnExactAllSolutions.j1 k bt118.2 bt118.1 true))))) else (some false)))))
def laws_FnExactAllSolutions.j1:Nat → List ByteArray → Int → Bool → Option (Bool)
 | 0,_,_,_=>none
 | k + 1,x6,x8,x63=>if x63 = true then (some false) else ((laws_heldStringS.f k x6 1).bind fun t129=>(if t129 < 0 then (some false) else (if t129 = x8 then (some true) else (some false))))
end
def laws_FnExactAllSolutions.f (k:Nat) (a0_0:ByteArray) (a0_1:ByteArray) (a0_2:Int):Option (Bool):=(laws_szPuzzle.f a0_0 a0_1 a0_2 1048576).bind fun t102=>(if t102 < 0 then (some true) else ((laws_toPuzzle.f a0_0 a0_1 a0_2).bind fun bt103=>((spec_AllSolutions.f bt103.1 bt103.2.1 bt103.2.2).bind fun bt106=>((laws_toPuzzle.f a0_0 a0_1 a0_2).bind fun bt110=>((impl_AllSolutions.f bt110.1 bt110.2.1 bt110.2.2).bind fun bt113=>((laws_eqStringS.f k bt113.1 bt106.1).bind fun t117=>(if t117 = true then (laws_FnExactAllSolutions.j0 k bt106.1 bt106.2 bt113.1 (bt113.2 != bt106.2) a0_0 a0_1 a0_2) else (laws_FnExactAllSolutions.j0 k bt106.1 bt106.2 bt113.1 true a0_0 a0_1 a0_2))))))))
theorem laws_FnExactAllSolutions.mono_l:∀ k,(∀ y0 y1 y2 y3 y4 y5 y6,LeO (laws_FnExactAllSolutions.j0 k y0 y1 y2 y3 y4 y5 y6) (laws_FnExactAllSolutions.j0 (k + 1) y0 y1 y2 y3 y4 y5 y6)) ∧ (∀ y0 y1 y2,LeO (laws_FnExactAllSolutions.j1 k y0 y1 y2) (laws_FnExactAllSolutions.j1 (k + 1) y0 y1 y2))
 | 0=>⟨fun _ _ _ _ _ _ _ r h=>by simp [laws_FnExactAllSolutions.j0] at h,fun _ _ _ r h=>by simp [laws_FnExactAllSolutions.j1] at h⟩
 | k + 1=>by
  obtain ⟨ih0,ih1⟩:=laws_FnExactAllSolutions.mono_l k
  refine ⟨?_,?_⟩
  ·intro y0 y1 y2 y3 y4 y5 y6
   unfold laws_FnExactAllSolutions.j0
   have im0:=@laws_eqStringS.mono;have im1:=@laws_heldStringS.mono;have im2:=@laws_markStringS.mono;exact mo
  ·intro y0 y1 y2
   unfold laws_FnExactAllSolutions.j1
   have im0:=@laws_eqStringS.mono;have im1:=@laws_heldStringS.mono;have im2:=@laws_markStringS.mono;exact mo
theorem laws_FnExactAllSolutions.calls (k:Nat) (a0_0:ByteArray) (a0_1:ByteArray) (a0_2:Int) (r:Bool) (w:World) (h:laws_FnExactAllSolutions.f k a0_0 a0_1 a0_2 = some r) :
  Calls Tryz.prog 7 #[.agg #[.string a0_0,.string a0_1,.int .i64 a0_2]] w fun e w'=>e = .returned (.bool r) ∧ Below w.heap.size w w':=by
 have hu26:=Tryz.underlying26
 have HB:=am (Below.refl w.heap.size w)
 have H:((laws_szPuzzle.f a0_0 a0_1 a0_2 1048576).bind fun t102=>(if t102 < 0 then (some true) else ((laws_toPuzzle.f a0_0 a0_1 a0_2).bind fun bt103=>((spec_AllSolutions.f bt103.1 bt103.2.1 bt103.2.2).bind fun bt106=>((laws_toPuzzle.f a0_0 a0_1 a0_2).bind fun bt110=>((impl_AllSolutions.f bt110.1 bt110.2.1 bt110.2.2).bind fun bt113=>((laws_eqStringS.f k bt113.1 bt106.1).bind fun t117=>(if t117 = true then (laws_FnExactAllSolutions.j0 k bt106.1 bt106.2 bt113.1 (bt113.2 != bt106.2) a0_0 a0_1 a0_2) else (laws_FnExactAllSolutions.j0 k bt106.1 bt106.2 bt113.1 true a0_0 a0_1 a0_2))))))))) = some r:=h
 clear h
 replace H:=Option.bind_eq_some_iff.mp H
 obtain ⟨t102,A20,H⟩:=H
 replace H:(if t102 < 0 then (some true) else ((laws_toPuzzle.f a0_0 a0_1 a0_2).bind fun bt103=>((spec_AllSolutions.f bt103.1 bt103.2.1 bt103.2.2).bind fun bt106=>((laws_toPuzzle.f a0_0 a0_1 a0_2).bind fun bt110=>((impl_AllSolutions.f bt110.1 bt110.2.1 bt110.2.2).bind fun bt113=>((laws_eqStringS.f k bt113.1 bt106.1).bind fun t117=>(if t117 = true then (laws_FnExactAllSolutions.j0 k bt106.1 bt106.2 bt113.1 (bt113.2 != bt106.2) a0_0 a0_1 a0_2) else (laws_FnExactAllSolutions.j0 k bt106.1 bt106.2 bt113.1 true a0_0 a0_1 a0_2)))))))) = some r:=H
 have A2:=am A20
 clear A20
 by_cases c3:t102 < 0
 ·rw [if_pos c3] at H
  have c3b0:decide (t102 < 0) = true:=decide_eq_true c3
  clear c3
  obtain rfl:=Option.some.inj H
  go_enter Tryz.func7,Tryz.ntmps7
  go_wp2_with (first | (refine bx 1 #[.string a0_0,.string a0_1,.int .i64 a0_2] 26 ?_;intro gb101 hg w4 hbox hb;have BK101:=am (hbox);have GW101:=am ((by rw [hg];exact (below_size (by repeat (first | (with_reducible first | exact HB.out | apply below_alloc | apply pw_below_drewN | apply below_drew1) | exact HB.out))):w.heap.size ≤ gb101));have GE101:=am ((by rw [hg];exact (below_size (by repeat (first | (with_reducible first | exact HB.out | apply below_alloc | apply pw_below_drewN | apply below_drew1) | exact HB.out))):w.heap.size ≤ gb101));replace HB:=am (below_step (by repeat (first | (with_reducible first | exact HB.out | apply below_alloc | apply pw_below_drewN | apply below_drew1) | exact HB.out)) hb);clear hb hbox hg;have hcz5_0:w4.cell? ⟨gb101,0,none⟩ = some (.string a0_0):=(blk_cell BK101.out 0).trans rfl;have hcz5_1:w4.cell? ⟨gb101,1,none⟩ = some (.string a0_1):=(blk_cell BK101.out 1).trans rfl;have hcz5_2:w4.cell? ⟨gb101,2,none⟩ = some (.int .i64 a0_2):=(blk_cell BK101.out 2).trans rfl;have hfz5_0:=blk_frozen BK101.out 0;have hfz5_1:=blk_frozen BK101.out 1;have hfz5_2:=blk_frozen BK101.out 2) | ((with_reducible refine gate_callee (f:=16) rfl ?_);refine goesL_ (some 14) rfl rfl Tryz.func16 k_r rfl #[.agg #[.string a0_0,.string a0_1,.int .i64 a0_2],.int .i64 1048576] rfl (by (try simp only [List.map_toArray,List.map_cons,List.map_nil]);first | done | rfl | (simp only [List.length_drop,List.length_take];rfl)) ?_;(with_reducible refine (laws_szPuzzle.calls a0_0 a0_1 a0_2 1048576 t102 _ A2.out).mono ?_);rintro e w6 ⟨rfl,hb⟩;refine ⟨_,rfl,?_⟩;replace BK101:=am (blk_below (g:=gb101) (o:=.cells #[.string a0_0,.string a0_1,.int .i64 a0_2] 26 (0,0)) (by (with_reducible repeat (first | refine blk_drewN ?_ _ | refine blk_drew ?_ | refine blk_alloc ?_ _));exact BK101.out) hb);replace HB:=am (below_step (by repeat (first | (with_reducible first | exact HB.out | apply below_alloc | apply pw_below_drewN | apply below_drew1 | refine below_set ?_ GE101.out) | exact HB.out)) hb);(try clear hb)))
  go_ret
  exact ⟨by first | rfl | (simp [errW_none,errW_some] <;> rfl) | (simp [*,errW_none,errW_some] <;> rfl),by repeat (first | (with_reducible first | exact HB.out | apply below_alloc | apply pw_below_drewN | apply below_drew1 | refine below_set ?_ GE101.out) | exact HB.out)⟩
 rw [if_neg c3] at H
 have c3b0:decide (t102 < 0) = false:=decide_eq_false c3
 clear c3
 replace H:=Option.bind_eq_some_iff.mp H
 obtain ⟨⟨t103,t104,t105⟩,A70,H⟩:=H
 replace H:((spec_AllSolutions.f t103 t104 t105).bind fun bt106=>((laws_toPuzzle.f a0_0 a0_1 a0_2).bind fun bt110=>((impl_AllSolutions.f bt110.1 bt110.2.1 bt110.2.2).bind fun bt113=>((laws_eqStringS.f k bt113.1 bt106.1).bind fun t117=>(if t117 = true then (laws_FnExactAllSolutions.j0 k bt106.1 bt106.2 bt113.1 (bt113.2 != bt106.2) a0_0 a0_1 a0_2) else (laws_FnExactAllSolutions.j0 k bt106.1 bt106.2 bt113.1 true a0_0 a0_1 a0_2)))))) = some r:=H
 have A7:=am A70
 clear A70
 replace H:=Option.bind_eq_some_iff.mp H
 obtain ⟨⟨t106,t109⟩,A80,H⟩:=H
 replace H:((laws_toPuzzle.f a0_0 a0_1 a0_2).bind fun bt110=>((impl_AllSolutions.f bt110.1 bt110.2.1 bt110.2.2).bind fun bt113=>((laws_eqStringS.f k bt113.1 t106).bind fun t117=>(if t117 = true then (laws_FnExactAllSolutions.j0 k t106 t109 bt113.1 (bt113.2 != t109) a0_0 a0_1 a0_2) else (laws_FnExactAllSolutions.j0 k t106 t109 bt113.1 true a0_0 a0_1 a0_2))))) = some r:=H
 have A8:=am A80
 clear A80
 replace H:=Option.bind_eq_some_iff.mp H
 obtain ⟨⟨t110,t111,t112⟩,A90,H⟩:=H
 replace H:((impl_AllSolutions.f t110 t111 t112).bind fun bt113=>((laws_eqStringS.f k bt113.1 t106).bind fun t117=>(if t117 = true then (laws_FnExactAllSolutions.j0 k t106 t109 bt113.1 (bt113.2 != t109) a0_0 a0_1 a0_2) else (laws_FnExactAllSolutions.j0 k t106 t109 bt113.1 true a0_0 a0_1 a0_2)))) = some r:=H
 have A9:=am A90
 clear A90
 replace H:=Option.bind_eq_some_iff.mp H
 obtain ⟨⟨t113,t116⟩,A100,H⟩:=H
 replace H:((laws_eqStringS.f k t113 t106).bind fun t117=>(if t117 = true then (laws_FnExactAllSolutions.j0 k t106 t109 t113 (t116 != t109) a0_0 a0_1 a0_2) else (laws_FnExactAllSolutions.j0 k t106 t109 t113 true a0_0 a0_1 a0_2))) = some r:=H
 have A10:=am A100
 clear A100
 have HC11:=am H
 clear H
 go_enter Tryz.func7,Tryz.ntmps7
 go_upto_region 7 with (first | (refine bx 1 #[.string a0_0,.string a0_1,.int .i64 a0_2] 26 ?_;intro gb101 hg w12 hbox hb;have BK101:=am (hbox);have GW101:=am ((by rw [hg];exact (below_size (by repeat (first | (with_reducible first | exact HB.out | apply below_alloc | apply pw_below_drewN | apply below_drew1) | exact HB.out))):w.heap.size ≤ gb101));have GE101:=am ((by rw [hg];exact (below_size (by repeat (first | (with_reducible first | exact HB.out | apply below_alloc | apply pw_below_drewN | apply below_drew1) | exact HB.out))):w.heap.size ≤ gb101));replace HB:=am (below_step (by repeat (first | (with_reducible first | exact HB.out | apply below_alloc | apply pw_below_drewN | apply below_drew1) | exact HB.out)) hb);clear hb hbox hg;have hcz13_0:w12.cell? ⟨gb101,0,none⟩ = some (.string a0_0):=(blk_cell BK101.out 0).trans rfl;have hcz13_1:w12.cell? ⟨gb101,1,none⟩ = some (.string a0_1):=(blk_cell BK101.out 1).trans rfl;have hcz13_2:w12.cell? ⟨gb101,2,none⟩ = some (.int .i64 a0_2):=(blk_cell BK101.out 2).trans rfl;have hfz13_0:=blk_frozen BK101.out 0;have hfz13_1:=blk_frozen BK101.out 1;have hfz13_2:=blk_frozen BK101.out 2) | ((with_reducible refine gate_callee (f:=16) rfl ?_);refine goesL_ (some 14) rfl rfl Tryz.func16 k_r rfl #[.agg #[.string a0_0,.string a0_1,.int .i64 a0_2],.int .i64 1048576] rfl (by (try simp only [List.map_toArray,List.map_cons,List.map_nil]);first | done | rfl | (simp only [List.length_drop,List.length_take];rfl)) ?_;(with_reducible refine (laws_szPuzzle.calls a0_0 a0_1 a0_2 1048576 t102 _ A2.out).mono ?_);rintro e w14 ⟨rfl,hb⟩;refine ⟨_,rfl,?_⟩;replace BK101:=am (blk_below (g:=gb101) (o:=.cells #[.string a0_0,.string a0_1,.int .i64 a0_2] 26 (0,0)) (by (with_reducible repeat (first | refine blk_drewN ?_ _ | refine blk_drew ?_ | refine blk_alloc ?_ _));exact BK101.out) hb);replace HB:=am (below_step (by repeat (first | (with_reducible first | exact HB.out | apply below_alloc | apply pw_below_drewN | apply below_drew1 | refine below_set ?_ GE101.out) | exact HB.out)) hb);(try clear hb);have hcz15_0:w14.cell? ⟨gb101,0,none⟩ = some (.string a0_0):=(blk_cell BK101.out 0).trans rfl;have hcz15_1:w14.cell? ⟨gb101,1,none⟩ = some (.string a0_1):=(blk_cell BK101.out 1).trans rfl;have hcz15_2:w14.cell? ⟨gb101,2,none⟩ = some (.int .i64 a0_2):=(blk_cell BK101.out 2).trans rfl;have hfz15_0:=blk_frozen BK101.out 0;have hfz15_1:=blk_frozen BK101.out 1;have hfz15_2:=blk_frozen BK101.out 2) | ((with_reducible refine gate_callee (f:=18) rfl ?_);refine goesL_ (some 19) rfl rfl Tryz.func18 k_r rfl #[.agg #[.string a0_0,.string a0_1,.int .i64 a0_2]] rfl (by (try simp only [List.map_toArray,List.map_cons,List.map_nil]);first | done | rfl | (simp only [List.length_drop,List.length_take];rfl)) ?_;(with_reducible refine (laws_toPuzzle.calls a0_0 a0_1 a0_2 t103 t104 t105 _ A7.out).mono ?_);rintro e w16 ⟨rfl,hb⟩;refine ⟨_,rfl,?_⟩;replace BK101:=am (blk_below (g:=gb101) (o:=.cells #[.string a0_0,.string a0_1,.int .i64 a0_2] 26 (0,0)) (by (with_reducible repeat (first | refine blk_drewN ?_ _ | refine blk_drew ?_ | refine blk_alloc ?_ _));exact BK101.out) hb);replace HB:=am (below_step (by repeat (first | (with_reducible first | exact HB.out | apply below_alloc | apply pw_below_drewN | apply below_drew1 | refine below_set ?_ GE101.out) | exact HB.out)) hb);(try clear hb)) | ((with_reducible refine gate_callee (f:=24) rfl ?_);refine goesL_ (some 20) rfl rfl Tryz.func24 k_r rfl #[.agg #[.string t103,.string t104,.int .i64 t105]] rfl (by (try simp only [List.map_toArray,List.map_cons,List.map_nil]);first | done | rfl | (simp only [List.length_drop,List.length_take];rfl)) ?_;(with_reducible refine (spec_AllSolutions.calls t103 t104 t105 t106 t109 _ A8.out).mono ?_);rintro e w17 ⟨v107,rfl,ho0,hb⟩;refine ⟨_,rfl,?_⟩;have HO108:=am (Kd.R_lower ho0 (below_size (by repeat (first | (with_reducible first | exact HB.out | apply below_alloc | apply pw_below_drewN | apply below_drew1 | refine below_set ?_ GE101.out) | exact HB.out))));replace BK101:=am (blk_below (g:=gb101) (o:=.cells #[.string a0_0,.string a0_1,.int .i64 a0_2] 26 (0,0)) (by (with_reducible repeat (first | refine blk_drewN ?_ _ | refine blk_drew ?_ | refine blk_alloc ?_ _));exact BK101.out) hb);replace HB:=am (below_step (by repeat (first | (with_reducible first | exact HB.out | apply below_alloc | apply pw_below_drewN | apply below_drew1 | refine below_set ?_ GE101.out) | exact HB.out)) hb);(try clear hb);(try clear ho0);have hcz18_0:w17.cell? ⟨gb101,0,none⟩ = some (.string a0_0):=(blk_cell BK101.out 0).trans rfl;have hcz18_1:w17.cell? ⟨gb101,1,none⟩ = some (.string a0_1):=(blk_cell BK101.out 1).trans rfl;have hcz18_2:w17.cell? ⟨gb101,2,none⟩ = some (.int .i64 a0_2):=(blk_cell BK101.out 2).trans rfl;have hfz18_0:=blk_frozen BK101.out 0;have hfz18_1:=blk_frozen BK101.out 1;have hfz18_2:=blk_frozen BK101.out 2) | ((with_reducible refine gate_callee (f:=18) rfl ?_);refine goesL_ (some 25) rfl rfl Tryz.func18 k_r rfl #[.agg #[.string a0_0,.string a0_1,.int .i64 a0_2]] rfl (by (try simp only [List.map_toArray,List.map_cons,List.map_nil]);first | done | rfl | (simp only [List.length_drop,List.length_take];rfl)) ?_;(with_reducible refine (laws_toPuzzle.calls a0_0 a0_1 a0_2 t110 t111 t112 _ A9.out).mono ?_);rintro e w19 ⟨rfl,hb⟩;refine ⟨_,rfl,?_⟩;replace HO108:=am (Kd.R_below (by (with_reducible repeat (first | apply Kd.R_alloc | apply Kd.R_drewN | apply Kd.R_drew));exact HO108.out) hb);replace BK101:=am (blk_below (g:=gb101) (o:=.cells #[.string a0_0,.string a0_1,.int .i64 a0_2] 26 (0,0)) (by (with_reducible repeat (first | refine blk_drewN ?_ _ | refine blk_drew ?_ | refine blk_alloc ?_ _));exact BK101.out) hb);replace HB:=am (below_step (by repeat (first | (with_reducible first | exact HB.out | apply below_alloc | apply pw_below_drewN | apply below_drew1 | refine below_set ?_ GE101.out) | exact HB.out)) hb);(try clear hb)) | ((with_reducible refine gate_callee (f:=25) rfl ?_);refine goesL_ (some 26) rfl rfl Tryz.func25 k_r rfl #[.agg #[.string t110,.string t111,.int .i64 t112]] rfl (by (try simp only [List.map_toArray,List.map_cons,List.map_nil]);first | done | rfl | (simp only [List.length_drop,List.length_take];rfl)) ?_;(with_reducible refine (impl_AllSolutions.calls t110 t111 t112 t113 t116 _ A10.out).mono ?_);rintro e w20 ⟨v114,rfl,ho0,hb⟩;refine ⟨_,rfl,?_⟩;have HO115:=am (Kd.R_lower (Kd.R_new' ho0 (Kd.R_lt (by (with_reducible repeat (first | apply Kd.R_alloc | apply Kd.R_drewN | apply Kd.R_drew));exact HO108.out))) (below_size (by repeat (first | (with_reducible first | exact HB.out | apply below_alloc | apply pw_below_drewN | apply below_drew1 | refine below_set ?_ GE101.out) | exact HB.out))));replace HO108:=am (Kd.R_elder' (by (with_reducible repeat (first | apply Kd.R_alloc | apply Kd.R_drewN | apply Kd.R_drew));exact HO108.out) (Kd.R_base ho0) hb);replace BK101:=am (blk_below (g:=gb101) (o:=.cells #[.string a0_0,.string a0_1,.int .i64 a0_2] 26 (0,0)) (by (with_reducible repeat (first | refine blk_drewN ?_ _ | refine blk_drew ?_ | refine blk_alloc ?_ _));exact BK101.out) hb);replace HB:=am (below_step (by repeat (first | (with_reducible first | exact HB.out | apply below_alloc | apply pw_below_drewN | apply below_drew1 | refine below_set ?_ GE101.out) | exact HB.out)) hb);(try clear hb);(try clear ho0)))
 (try simp only [Act.put,List.setIfInBounds_toArray,List.set_cons_zero,List.set_cons_succ])
 go_cut [37] (fun v37 wc=>∃ (kq:Nat) (x37_10:Bool),v37 = .bool x37_10 ∧ Aside0 (laws_FnExactAllSolutions.j0 kq t106 t109 t113 x37_10 a0_0 a0_1 a0_2 = some r) ∧ Aside0 (kq ≤ k) ∧ Aside0 (Kd.R Kd.string 9 wc w.heap.size (fun k_=>some k_ ≠ (v114:Value).ownBlock) v107 t106) ∧ Aside0 (Kd.R Kd.string 9 wc w.heap.size (fun k_=>some k_ ≠ (v107:Value).ownBlock) v114 t113) ∧ Aside0 (wc.heap[gb101]? = some (.cells #[.string a0_0,.string a0_1,.int .i64 a0_2] 26 (0,0))) ∧ Aside0 (Below w.heap.size w wc))
 case first =>
  have H:=HC11.out
  clear HC11
  replace H:=Option.bind_eq_some_iff.mp H
  obtain ⟨t117,A210,H⟩:=H
  replace H:(if t117 = true then (laws_FnExactAllSolutions.j0 k t106 t109 t113 (t116 != t109) a0_0 a0_1 a0_2) else (laws_FnExactAllSolutions.j0 k t106 t109 t113 true a0_0 a0_1 a0_2)) = some r:=H
  have A21:=am A210
  clear A210
  by_cases c22:t117 = true
  ·subst c22
   have H1:(laws_FnExactAllSolutions.j0 k t106 t109 t113 (t116 != t109) a0_0 a0_1 a0_2) = some r:=by rw [if_pos rfl] at H;exact H
   clear H
   have H:=H1
   clear H1
   have H':=am H
   clear H
   obtain ⟨Ao23,co23,eo23⟩:=Kd.R_slice HO115.out
   subst eo23
   obtain ⟨Ao24,co24,eo24⟩:=Kd.R_slice HO108.out
   subst eo24
   go_wp2_with (first | ((with_reducible refine gate_callee (f:=26) rfl ?_);refine goesL_ (some 31) rfl rfl Tryz.func26 k_r rfl #[.slice Ao23 t113.length co23,.slice Ao24 t106.length co24] rfl (by (try simp only [List.map_toArray,List.map_cons,List.map_nil]);first | done | rfl | (simp only [List.length_drop,List.length_take];rfl)) ?_;(with_reducible refine (laws_eqStringS.calls k _ _ t113 _ _ t106 true _ ?side1 ?side2 ?side3 ?side4 A21.out).mono ?_);(case side1=>repeat (first | exact (Kd.R_reads' HO115.out).2.2 | (with_reducible refine Kd.C_alloc ?_ _) | (with_reducible refine Kd.C_drewN ?_ _) | (with_reducible refine Kd.C_drew ?_)));(case side2=>exact (Kd.R_reads' HO115.out).2.1);(case side3=>repeat (first | exact (Kd.R_reads' HO108.out).2.2 | (with_reducible refine Kd.C_alloc ?_ _) | (with_reducible refine Kd.C_drewN ?_ _) | (with_reducible refine Kd.C_drew ?_)));(case side4=>exact (Kd.R_reads' HO108.out).2.1);rintro e w' ⟨rfl,⟨nd,rfl⟩⟩;refine ⟨_,rfl,?_⟩))
   go_meet
   case rel=>exact ⟨_,((t116 != t109)),(by first | rfl | (simp;done) | (simp [*];done)),H',⟨by first | omega | exact Nat.le_refl _⟩,⟨by (with_reducible repeat (first | apply Kd.R_alloc | apply Kd.R_drewN | apply Kd.R_drew));exact Kd.R_mono HO108.out (fun _ hk=>hk.2)⟩,⟨by (with_reducible repeat (first | apply Kd.R_alloc | apply Kd.R_drewN | apply Kd.R_drew));exact Kd.R_mono HO115.out (fun _ hk=>hk.2)⟩,⟨by (with_reducible repeat (first | refine blk_drewN ?_ _ | refine blk_drew ?_ | refine blk_alloc ?_ _));exact BK101.out⟩,⟨by repeat (first | (with_reducible first | exact HB.out | apply below_alloc | apply pw_below_drewN | apply below_drew1 | refine below_set ?_ GE101.out) | exact HB.out)⟩⟩
  replace c22:=Bool.eq_false_iff.mpr c22
  subst c22
  have H1:(laws_FnExactAllSolutions.j0 k t106 t109 t113 true a0_0 a0_1 a0_2) = some r:=by rw [if_neg (show ¬ (false = true) by decide)] at H;exact H
  clear H
  have H:=H1
  clear H1
  have H':=am H
  clear H
  obtain ⟨Ao25,co25,eo25⟩:=Kd.R_slice HO115.out
  subst eo25
  obtain ⟨Ao26,co26,eo26⟩:=Kd.R_slice HO108.out
  subst eo26
  go_wp2_with (first | ((with_reducible refine gate_callee (f:=26) rfl ?_);refine goesL_ (some 31) rfl rfl Tryz.func26 k_r rfl #[.slice Ao25 t113.length co25,.slice Ao26 t106.length co26] rfl (by (try simp only [List.map_toArray,List.map_cons,List.map_nil]);first | done | rfl | (simp only [List.length_drop,List.length_take];rfl)) ?_;(with_reducible refine (laws_eqStringS.calls k _ _ t113 _ _ t106 false _ ?side1 ?side2 ?side3 ?side4 A21.out).mono ?_);(case side1=>repeat (first | exact (Kd.R_reads' HO115.out).2.2 | (with_reducible refine Kd.C_alloc ?_ _) | (with_reducible refine Kd.C_drewN ?_ _) | (with_reducible refine Kd.C_drew ?_)));(case side2=>exact (Kd.R_reads' HO115.out).2.1);(case side3=>repeat (first | exact (Kd.R_reads' HO108.out).2.2 | (with_reducible refine Kd.C_alloc ?_ _) | (with_reducible refine Kd.C_drewN ?_ _) | (with_reducible refine Kd.C_drew ?_)));(case side4=>exact (Kd.R_reads' HO108.out).2.1);rintro e w' ⟨rfl,⟨nd,rfl⟩⟩;refine ⟨_,rfl,?_⟩))
  go_meet
  case rel=>exact ⟨_,(true),(by first | rfl | (simp;done) | (simp [*];done)),H',⟨by first | omega | exact Nat.le_refl _⟩,⟨by (with_reducible repeat (first | apply Kd.R_alloc | apply Kd.R_drewN | apply Kd.R_drew));exact Kd.R_mono HO108.out (fun _ hk=>hk.2)⟩,⟨by (with_reducible repeat (first | apply Kd.R_alloc | apply Kd.R_drewN | apply Kd.R_drew));exact Kd.R_mono HO115.out (fun _ hk=>hk.2)⟩,⟨by (with_reducible repeat (first | refine blk_drewN ?_ _ | refine blk_drew ?_ | refine blk_alloc ?_ _));exact BK101.out⟩,⟨by repeat (first | (with_reducible first | exact HB.out | apply below_alloc | apply pw_below_drewN | apply below_drew1 | refine below_set ?_ GE101.out) | exact HB.out)⟩⟩
 case rest =>
  clear HC11
  try clear c1
  try clear c2
  try clear p2
  try clear c3
  try clear c3b0
  try clear c7
  try clear c16
  try clear c18
  try clear c22
  try clear c24
  try clear c25
  try clear c26
  try clear hcz13_0
  try clear hcz13_1
  try clear hcz13_2
  try clear hcz15_0
  try clear hcz15_1
  try clear hcz15_2
  try clear hcz18_0
  try clear hcz18_1
  try clear hcz18_2
  try clear hcz5_0
  try clear hcz5_1
  try clear hcz5_2
  try clear hfz13_0
  try clear hfz13_1
  try clear hfz13_2
  try clear hfz15_0
  try clear hfz15_1
  try clear hfz15_2
  try clear hfz18_0
  try clear hfz18_1
  try clear hfz18_2
  try clear hfz5_0
  try clear hfz5_1
  try clear hfz5_2
  obtain ⟨kq,x37_10,rfl,HA,HJ10,HO_4,HO_6,BK101,HB⟩:=hcut
  cases kq with
  | zero=>exact absurd HA.out (by simp [laws_FnExactAllSolutions.j0])
  | succ kj10 =>
   have H:=HA.out
   clear HA
   simp only [laws_FnExactAllSolutions.j0] at H
   by_cases c27:x37_10 = true
   ·subst c27
    have H1:(some false) = some r:=by rw [if_pos rfl] at H;exact H
    clear H
    have H:=H1
    clear H1
    obtain rfl:=Option.some.inj H
    go_wp2
    go_ret
    exact ⟨by first | rfl | (simp [errW_none,errW_some] <;> rfl) | (simp [*,errW_none,errW_some] <;> rfl),by repeat (first | (with_reducible first | exact HB.out | apply below_alloc | apply pw_below_drewN | apply below_drew1 | refine below_set ?_ GE101.out) | exact HB.out)⟩
   replace c27:=Bool.eq_false_iff.mpr c27
   subst c27
   have H1:((laws_markStringS.f kj10 t113 1).bind fun bt118=>((laws_heldStringS.f kj10 bt118.2 1).bind fun t120=>(if t120 < 0 then (some false) else (if t120 = bt118.1 then ((laws_toPuzzle.f a0_0 a0_1 a0_2).bind fun bt121=>((impl_AllSolutions.f bt121.1 bt121.2.1 bt121.2.2).bind fun bt124=>((laws_eqStringS.f kj10 bt124.1 t106).bind fun t128=>(if t128 = true then (laws_FnExactAllSolutions.j1 kj10 bt118.2 bt118.1 (bt124.2 != t109)) else (laws_FnExactAllSolutions.j1 kj10 bt118.2 bt118.1 true))))) else (some false))))) = some r:=by rw [if_neg (show ¬ (false = true) by decide)] at H;exact H
   clear H
   have H:=H1
   clear H1
   replace H:=Option.bind_eq_some_iff.mp H
   obtain ⟨⟨t118,t119⟩,A280,H⟩:=H
   replace H:((laws_heldStringS.f kj10 t119 1).bind fun t120=>(if t120 < 0 then (some false) else (if t120 = t118 then ((laws_toPuzzle.f a0_0 a0_1 a0_2).bind fun bt121=>((impl_AllSolutions.f bt121.1 bt121.2.1 bt121.2.2).bind fun bt124=>((laws_eqStringS.f kj10 bt124.1 t106).bind fun t128=>(if t128 = true then (laws_FnExactAllSolutions.j1 kj10 t119 t118 (bt124.2 != t109)) else (laws_FnExactAllSolutions.j1 kj10 t119 t118 true))))) else (some false)))) = some r:=H
   have A28:=am A280
   clear A280
   replace H:=Option.bind_eq_some_iff.mp H
   obtain ⟨t120,A290,H⟩:=H
   replace H:(if t120 < 0 then (some false) else (if t120 = t118 then ((laws_toPuzzle.f a0_0 a0_1 a0_2).bind fun bt121=>((impl_AllSolutions.f bt121.1 bt121.2.1 bt121.2.2).bind fun bt124=>((laws_eqStringS.f kj10 bt124.1 t106).bind fun t128=>(if t128 = true then (laws_FnExactAllSolutions.j1 kj10 t119 t118 (bt124.2 != t109)) else (laws_FnExactAllSolutions.j1 kj10 t119 t118 true))))) else (some false))) = some r:=H
   have A29:=am A290
   clear A290
   by_cases c30:t120 < 0
   ·rw [if_pos c30] at H
    have c30b0:decide (t120 < 0) = true:=decide_eq_true c30
    clear c30
    obtain rfl:=Option.some.inj H
    obtain ⟨Ao31,co31,eo31⟩:=Kd.R_slice HO_6.out
    subst eo31
    go_wp2_with (first | ((with_reducible refine gate_callee (f:=27) rfl ?_);refine goesL_ (some 40) rfl rfl Tryz.func27 k_r rfl #[.slice Ao31 t113.length co31,.int .i64 1] rfl (by (try simp only [List.map_toArray,List.map_cons,List.map_nil]);first | done | rfl | (simp only [List.length_drop,List.length_take];rfl)) ?_;(with_reducible refine (laws_markStringS.calls kj10 (fun k_=>some k_ = (.slice Ao31 t113.length co31:Value).ownBlock) (.slice Ao31 t113.length co31) t113 1 t118 t119 w _ ?side1 ?side2 A28.out).mono ?_);(case side1=>repeat (first | (with_reducible first | exact HB.out | apply below_alloc | apply pw_below_drewN | apply below_drew1 | refine below_set ?_ GE101.out) | exact HB.out));(case side2=>exact Kd.R_tight rfl HO_6.out);rintro e w32 ⟨rfl,hy0,hb,hkp⟩;refine ⟨_,rfl,?_⟩;replace HO_4:=am (Kd.R_mono (ok':=fun k_=>some k_ ≠ (.slice Ao31 t113.length co31:Value).ownBlock) (Kd.R_keptB (HO_4.out) hkp (fun k_ hk_ hs_=>(hk_) hs_)) (fun k_ hk_=>hk_.1));replace BK101:=am (blk_kept (by (with_reducible repeat (first | refine blk_drewN ?_ _ | refine blk_drew ?_ | refine blk_alloc ?_ _));exact BK101.out) hkp (fun hs_=>(fun e_=>(Kd.R_ne HO_6.out BK101.out d_c) e_) hs_));replace HO_6:=am (Kd.R_reok rfl hy0 (fun k_ e_=>HO_6.out.1 k_ e_));replace HB:=am (hb);(try clear hb);(try clear hkp);(try clear hy0)) | ((with_reducible refine gate_callee (f:=28) rfl ?_);refine goesL_ (some 43) rfl rfl Tryz.func28 k_r rfl #[.slice Ao31 t119.length co31,.int .i64 1] rfl (by (try simp only [List.map_toArray,List.map_cons,List.map_nil]);first | done | (rw [show t119.length = t113.length from (Kd.R_reads' HO_6.out).1.symm] <;> rfl) | rfl | (simp only [List.length_drop,List.length_take];rfl)) ?_;(with_reducible refine (laws_heldStringS.calls kj10 _ _ t119 1 t120 _ ?side1 ?side2 A29.out).mono ?_);(case side1=>repeat (first | exact (Kd.R_reads' HO_6.out).2.2 | (with_reducible refine Kd.C_alloc ?_ _) | (with_reducible refine Kd.C_drewN ?_ _) | (with_reducible refine Kd.C_drew ?_)));(case side2=>rw [show t119.length = t113.length from (Kd.R_reads' HO_6.out).1.symm];exact (Kd.R_reads' HO_6.out).2.1);rintro e w33 ⟨rfl,hb⟩;refine ⟨_,rfl,?_⟩;replace HO_4:=am (Kd.R_below (by (with_reducible repeat (first | apply Kd.R_alloc | apply Kd.R_drewN | apply Kd.R_drew));exact HO_4.out) hb);replace HO_6:=am (Kd.R_below (by (with_reducible repeat (first | apply Kd.R_alloc | apply Kd.R_drewN | apply Kd.R_drew));exact HO_6.out) hb);replace BK101:=am (blk_below (g:=gb101) (o:=.cells #[.string a0_0,.string a0_1,.int .i64 a0_2] 26 (0,0)) (by (with_reducible repeat (first | refine blk_drewN ?_ _ | refine blk_drew ?_ | refine blk_alloc ?_ _));exact BK101.out) hb);replace HB:=am (below_step (by repeat (first | (with_reducible first | exact HB.out | apply below_alloc | apply pw_below_drewN | apply below_drew1 | refine below_set ?_ GE101.out) | exact HB.out)) hb);(try clear hb)))
    go_ret
    exact ⟨by first | rfl | (simp [errW_none,errW_some] <;> rfl) | (simp [*,errW_none,errW_some] <;> rfl),by repeat (first | (with_reducible first | exact HB.out | apply below_alloc | apply pw_below_drewN | apply below_drew1 | refine below_set ?_ GE101.out) | exact HB.out)⟩
   rw [if_neg c30] at H
   have c30b0:decide (t120 < 0) = false:=decide_eq_false c30
   clear c30
   by_cases c34:t120 = t118
   rotate_left
   ·rw [if_neg c34] at H
    have c34b0:(t120 == t118) = false:=beq_eq_false_iff_ne.mpr c34
    have c34b1:(t120 != t118) = true:=bne_iff_ne.mpr c34
    obtain rfl:=Option.some.inj H
    obtain ⟨Ao57,co57,eo57⟩:=Kd.R_slice HO_6.out
    subst eo57
    go_wp2_with (first | ((with_reducible refine gate_callee (f:=27) rfl ?_);refine goesL_ (some 40) rfl rfl Tryz.func27 k_r rfl #[.slice Ao57 t113.length co57,.int .i64 1] rfl (by (try simp only [List.map_toArray,List.map_cons,List.map_nil]);first | done | rfl | (simp only [List.length_drop,List.length_take];rfl)) ?_;(with_reducible refine (laws_markStringS.calls kj10 (fun k_=>some k_ = (.slice Ao57 t113.length co57:Value).ownBlock) (.slice Ao57 t113.length co57) t113 1 t118 t119 w _ ?side1 ?side2 A28.out).mono ?_);(case side1=>repeat (first | (with_reducible first | exact HB.out | apply below_alloc | apply pw_below_drewN | apply below_drew1 | refine below_set ?_ GE101.out) | exact HB.out));(case side2=>exact Kd.R_tight rfl HO_6.out);rintro e w58 ⟨rfl,hy0,hb,hkp⟩;refine ⟨_,rfl,?_⟩;replace HO_4:=am (Kd.R_mono (ok':=fun k_=>some k_ ≠ (.slice Ao57 t113.length co57:Value).ownBlock) (Kd.R_keptB (HO_4.out) hkp (fun k_ hk_ hs_=>(hk_) hs_)) (fun k_ hk_=>hk_.1));replace BK101:=am (blk_kept (by (with_reducible repeat (first | refine blk_drewN ?_ _ | refine blk_drew ?_ | refine blk_alloc ?_ _));exact BK101.out) hkp (fun hs_=>(fun e_=>(Kd.R_ne HO_6.out BK101.out d_c) e_) hs_));replace HO_6:=am (Kd.R_reok rfl hy0 (fun k_ e_=>HO_6.out.1 k_ e_));replace HB:=am (hb);(try clear hb);(try clear hkp);(try clear hy0)) | ((with_reducible refine gate_callee (f:=28) rfl ?_);refine goesL_ (some 43) rfl rfl Tryz.func28 k_r rfl #[.slice Ao57 t119.length co57,.int .i64 1] rfl (by (try simp only [List.map_toArray,List.map_cons,List.map_nil]);first | done | (rw [show t119.length = t113.length from (Kd.R_reads' HO_6.out).1.symm] <;> rfl) | rfl | (simp only [List.length_drop,List.length_take];rfl)) ?_;(with_reducible refine (laws_heldStringS.calls kj10 _ _ t119 1 t120 _ ?side1 ?side2 A29.out).mono ?_);(case side1=>repeat (first | exact (Kd.R_reads' HO_6.out).2.2 | (with_reducible refine Kd.C_alloc ?_ _) | (with_reducible refine Kd.C_drewN ?_ _) | (with_reducible refine Kd.C_drew ?_)));(case side2=>rw [show t119.length = t113.length from (Kd.R_reads' HO_6.out).1.symm];exact (Kd.R_reads' HO_6.out).2.1);rintro e w59 ⟨rfl,hb⟩;refine ⟨_,rfl,?_⟩;replace HO_4:=am (Kd.R_below (by (with_reducible repeat (first | apply Kd.R_alloc | apply Kd.R_drewN | apply Kd.R_drew));exact HO_4.out) hb);replace HO_6:=am (Kd.R_below (by (with_reducible repeat (first | apply Kd.R_alloc | apply Kd.R_drewN | apply Kd.R_drew));exact HO_6.out) hb);replace BK101:=am (blk_below (g:=gb101) (o:=.cells #[.string a0_0,.string a0_1,.int .i64 a0_2] 26 (0,0)) (by (with_reducible repeat (first | refine blk_drewN ?_ _ | refine blk_drew ?_ | refine blk_alloc ?_ _));exact BK101.out) hb);replace HB:=am (below_step (by repeat (first | (with_reducible first | exact HB.out | apply below_alloc | apply pw_below_drewN | apply below_drew1 | refine below_set ?_ GE101.out) | exact HB.out)) hb);(try clear hb)))
    go_ret
    exact ⟨by first | rfl | (simp [errW_none,errW_some] <;> rfl) | (simp [*,errW_none,errW_some] <;> rfl),by repeat (first | (with_reducible first | exact HB.out | apply below_alloc | apply pw_below_drewN | apply below_drew1 | refine below_set ?_ GE101.out) | exact HB.out)⟩
   rw [if_pos c34] at H
   have c34b0:(t120 == t118) = true:=beq_iff_eq.mpr c34
   have c34b1:(t120 != t118) = false:=bne_eq_false_iff_eq.mpr c34
   clear c34
   replace H:=Option.bind_eq_some_iff.mp H
   obtain ⟨⟨t121,t122,t123⟩,A350,H⟩:=H
   replace H:((impl_AllSolutions.f t121 t122 t123).bind fun bt124=>((laws_eqStringS.f kj10 bt124.1 t106).bind fun t128=>(if t128 = true then (laws_FnExactAllSolutions.j1 kj10 t119 t118 (bt124.2 != t109)) else (laws_FnExactAllSolutions.j1 kj10 t119 t118 true)))) = some r:=H
   have A35:=am A350
   clear A350
   replace H:=Option.bind_eq_some_iff.mp H
   obtain ⟨⟨t124,t127⟩,A360,H⟩:=H
   replace H:((laws_eqStringS.f kj10 t124 t106).bind fun t128=>(if t128 = true then (laws_FnExactAllSolutions.j1 kj10 t119 t118 (t127 != t109)) else (laws_FnExactAllSolutions.j1 kj10 t119 t118 true))) = some r:=H
   have A36:=am A360
   clear A360
   have HC37:=am H
   clear H
   obtain ⟨Ao38,co38,eo38⟩:=Kd.R_slice HO_6.out
   subst eo38
   go_upto_region 18 with (first | ((with_reducible refine gate_callee (f:=27) rfl ?_);refine goesL_ (some 40) rfl rfl Tryz.func27 k_r rfl #[.slice Ao38 t113.length co38,.int .i64 1] rfl (by (try simp only [List.map_toArray,List.map_cons,List.map_nil]);first | done | rfl | (simp only [List.length_drop,List.length_take];rfl)) ?_;(with_reducible refine (laws_markStringS.calls kj10 (fun k_=>some k_ = (.slice Ao38 t113.length co38:Value).ownBlock) (.slice Ao38 t113.length co38) t113 1 t118 t119 w _ ?side1 ?side2 A28.out).mono ?_);(case side1=>repeat (first | (with_reducible first | exact HB.out | apply below_alloc | apply pw_below_drewN | apply below_drew1 | refine below_set ?_ GE101.out) | exact HB.out));(case side2=>exact Kd.R_tight rfl HO_6.out);rintro e w39 ⟨rfl,hy0,hb,hkp⟩;refine ⟨_,rfl,?_⟩;replace HO_4:=am (Kd.R_mono (ok':=fun k_=>some k_ ≠ (.slice Ao38 t113.length co38:Value).ownBlock) (Kd.R_keptB (HO_4.out) hkp (fun k_ hk_ hs_=>(hk_) hs_)) (fun k_ hk_=>hk_.1));replace BK101:=am (blk_kept (by (with_reducible repeat (first | refine blk_drewN ?_ _ | refine blk_drew ?_ | refine blk_alloc ?_ _));exact BK101.out) hkp (fun hs_=>(fun e_=>(Kd.R_ne HO_6.out BK101.out d_c) e_) hs_));replace HO_6:=am (Kd.R_reok rfl hy0 (fun k_ e_=>HO_6.out.1 k_ e_));replace HB:=am (hb);(try clear hb);(try clear hkp);(try clear hy0)) | ((with_reducible refine gate_callee (f:=28) rfl ?_);refine goesL_ (some 43) rfl rfl Tryz.func28 k_r rfl #[.slice Ao38 t119.length co38,.int .i64 1] rfl (by (try simp only [List.map_toArray,List.map_cons,List.map_nil]);first | done | (rw [show t119.length = t113.length from (Kd.R_reads' HO_6.out).1.symm] <;> rfl) | rfl | (simp only [List.length_drop,List.length_take];rfl)) ?_;(with_reducible refine (laws_heldStringS.calls kj10 _ _ t119 1 t120 _ ?side1 ?side2 A29.out).mono ?_);(case side1=>repeat (first | exact (Kd.R_reads' HO_6.out).2.2 | (with_reducible refine Kd.C_alloc ?_ _) | (with_reducible refine Kd.C_drewN ?_ _) | (with_reducible refine Kd.C_drew ?_)));(case side2=>rw [show t119.length = t113.length from (Kd.R_reads' HO_6.out).1.symm];exact (Kd.R_reads' HO_6.out).2.1);rintro e w40 ⟨rfl,hb⟩;refine ⟨_,rfl,?_⟩;replace HO_4:=am (Kd.R_below (by (with_reducible repeat (first | apply Kd.R_alloc | apply Kd.R_drewN | apply Kd.R_drew));exact HO_4.out) hb);replace HO_6:=am (Kd.R_below (by (with_reducible repeat (first | apply Kd.R_alloc | apply Kd.R_drewN | apply Kd.R_drew));exact HO_6.out) hb);replace BK101:=am (blk_below (g:=gb101) (o:=.cells #[.string a0_0,.string a0_1,.int .i64 a0_2] 26 (0,0)) (by (with_reducible repeat (first | refine blk_drewN ?_ _ | refine blk_drew ?_ | refine blk_alloc ?_ _));exact BK101.out) hb);replace HB:=am (below_step (by repeat (first | (with_reducible first | exact HB.out | apply below_alloc | apply pw_below_drewN | apply below_drew1 | refine below_set ?_ GE101.out) | exact HB.out)) hb);(try clear hb);have hcz41_0:w40.cell? ⟨gb101,0,none⟩ = some (.string a0_0):=(blk_cell BK101.out 0).trans rfl;have hcz41_1:w40.cell? ⟨gb101,1,none⟩ = some (.string a0_1):=(blk_cell BK101.out 1).trans rfl;have hcz41_2:w40.cell? ⟨gb101,2,none⟩ = some (.int .i64 a0_2):=(blk_cell BK101.out 2).trans rfl;have hfz41_0:=blk_frozen BK101.out 0;have hfz41_1:=blk_frozen BK101.out 1;have hfz41_2:=blk_frozen BK101.out 2) | ((with_reducible refine gate_callee (f:=18) rfl ?_);refine goesL_ (some 51) rfl rfl Tryz.func18 k_r rfl #[.agg #[.string a0_0,.string a0_1,.int .i64 a0_2]] rfl (by (try simp only [List.map_toArray,List.map_cons,List.map_nil]);first | done | rfl | (simp only [List.length_drop,List.length_take];rfl)) ?_;(with_reducible refine (laws_toPuzzle.calls a0_0 a0_1 a0_2 t121 t122 t123 _ A35.out).mono ?_);rintro e w42 ⟨rfl,hb⟩;refine ⟨_,rfl,?_⟩;replace HO_4:=am (Kd.R_below (by (with_reducible repeat (first | apply Kd.R_alloc | apply Kd.R_drewN | apply Kd.R_drew));exact HO_4.out) hb);replace HO_6:=am (Kd.R_below (by (with_reducible repeat (first | apply Kd.R_alloc | apply Kd.R_drewN | apply Kd.R_drew));exact HO_6.out) hb);replace BK101:=am (blk_below (g:=gb101) (o:=.cells #[.string a0_0,.string a0_1,.int .i64 a0_2] 26 (0,0)) (by (with_reducible repeat (first | refine blk_drewN ?_ _ | refine blk_drew ?_ | refine blk_alloc ?_ _));exact BK101.out) hb);replace HB:=am (below_step (by repeat (first | (with_reducible first | exact HB.out | apply below_alloc | apply pw_below_drewN | apply below_drew1 | refine below_set ?_ GE101.out) | exact HB.out)) hb);(try clear hb)) | ((with_reducible refine gate_callee (f:=25) rfl ?_);refine goesL_ (some 52) rfl rfl Tryz.func25 k_r rfl #[.agg #[.string t121,.string t122,.int .i64 t123]] rfl (by (try simp only [List.map_toArray,List.map_cons,List.map_nil]);first | done | rfl | (simp only [List.length_drop,List.length_take];rfl)) ?_;(with_reducible refine (impl_AllSolutions.calls t121 t122 t123 t124 t127 _ A36.out).mono ?_);rintro e w43 ⟨v125,rfl,ho0,hb⟩;refine ⟨_,rfl,?_⟩;have HO126:=am (Kd.R_lower (Kd.R_new' (Kd.R_new' ho0 (Kd.R_lt (by (with_reducible repeat (first | apply Kd.R_alloc | apply Kd.R_drewN | apply Kd.R_drew));exact HO_4.out))) (Kd.R_lt (by (with_reducible repeat (first | apply Kd.R_alloc | apply Kd.R_drewN | apply Kd.R_drew));exact HO_6.out))) (below_size (by repeat (first | (with_reducible first | exact HB.out | apply below_alloc | apply pw_below_drewN | apply below_drew1 | refine below_set ?_ GE101.out) | exact HB.out))));replace HO_4:=am (Kd.R_elder' (by (with_reducible repeat (first | apply Kd.R_alloc | apply Kd.R_drewN | apply Kd.R_drew));exact HO_4.out) (Kd.R_base ho0) hb);replace HO_6:=am (Kd.R_elder' (by (with_reducible repeat (first | apply Kd.R_alloc | apply Kd.R_drewN | apply Kd.R_drew));exact HO_6.out) (Kd.R_base ho0) hb);replace BK101:=am (blk_below (g:=gb101) (o:=.cells #[.string a0_0,.string a0_1,.int .i64 a0_2] 26 (0,0)) (by (with_reducible repeat (first | refine blk_drewN ?_ _ | refine blk_drew ?_ | refine blk_alloc ?_ _));exact BK101.out) hb);replace HB:=am (below_step (by repeat (first | (with_reducible first | exact HB.out | apply below_alloc | apply pw_below_drewN | apply below_drew1 | refine below_set ?_ GE101.out) | exact HB.out)) hb);(try clear hb);(try clear ho0)))
   (try simp only [Act.put,List.setIfInBounds_toArray,List.set_cons_zero,List.set_cons_succ])
   go_cut [63] (fun v63 wc=>∃ (kq:Nat) (x63_36:Bool),v63 = .bool x63_36 ∧ Aside0 (laws_FnExactAllSolutions.j1 kq t119 t118 x63_36 = some r) ∧ Aside0 (kq ≤ kj10) ∧ Aside0 (Kd.R Kd.string 9 wc w.heap.size (fun _=>True) (.slice Ao38 t113.length co38) t119) ∧ Aside0 (wc.heap[gb101]? = some (.cells #[.string a0_0,.string a0_1,.int .i64 a0_2] 26 (0,0))) ∧ Aside0 (Below w.heap.size w wc))
   case first =>
    have H:=HC37.out
    clear HC37
    replace H:=Option.bind_eq_some_iff.mp H
    obtain ⟨t128,A440,H⟩:=H
    replace H:(if t128 = true then (laws_FnExactAllSolutions.j1 kj10 t119 t118 (t127 != t109)) else (laws_FnExactAllSolutions.j1 kj10 t119 t118 true)) = some r:=H
    have A44:=am A440
    clear A440
    by_cases c45:t128 = true
    ·subst c45
     have H1:(laws_FnExactAllSolutions.j1 kj10 t119 t118 (t127 != t109)) = some r:=by rw [if_pos rfl] at H;exact H
     clear H
     have H:=H1
     clear H1
     have H':=am H
     clear H
     obtain ⟨Ao46,co46,eo46⟩:=Kd.R_slice HO126.out
     subst eo46
     obtain ⟨Ao47,co47,eo47⟩:=Kd.R_slice HO_4.out
     subst eo47
     go_wp2_with (first | ((with_reducible refine gate_callee (f:=26) rfl ?_);refine goesL_ (some 57) rfl rfl Tryz.func26 k_r rfl #[.slice Ao46 t124.length co46,.slice Ao47 t106.length co47] rfl (by (try simp only [List.map_toArray,List.map_cons,List.map_nil]);first | done | rfl | (simp only [List.length_drop,List.length_take];rfl)) ?_;(with_reducible refine (laws_eqStringS.calls kj10 _ _ t124 _ _ t106 true _ ?side1 ?side2 ?side3 ?side4 A44.out).mono ?_);(case side1=>repeat (first | exact (Kd.R_reads' HO126.out).2.2 | (with_reducible refine Kd.C_alloc ?_ _) | (with_reducible refine Kd.C_drewN ?_ _) | (with_reducible refine Kd.C_drew ?_)));(case side2=>exact (Kd.R_reads' HO126.out).2.1);(case side3=>repeat (first | exact (Kd.R_reads' HO_4.out).2.2 | (with_reducible refine Kd.C_alloc ?_ _) | (with_reducible refine Kd.C_drewN ?_ _) | (with_reducible refine Kd.C_drew ?_)));(case side4=>exact (Kd.R_reads' HO_4.out).2.1);rintro e w' ⟨rfl,⟨nd,rfl⟩⟩;refine ⟨_,rfl,?_⟩))
     go_meet
     case rel=>exact ⟨_,((t127 != t109)),(by first | rfl | (simp;done) | (simp [*];done)),H',⟨by have:=HJ10.out;first | omega | exact Nat.le_refl _⟩,⟨by (with_reducible repeat (first | apply Kd.R_alloc | apply Kd.R_drewN | apply Kd.R_drew));exact Kd.R_mono HO_6.out (fun _ hk=>trivial)⟩,⟨by (with_reducible repeat (first | refine blk_drewN ?_ _ | refine blk_drew ?_ | refine blk_alloc ?_ _));exact BK101.out⟩,⟨by repeat (first | (with_reducible first | exact HB.out | apply below_alloc | apply pw_below_drewN | apply below_drew1 | refine below_set ?_ GE101.out) | exact HB.out)⟩⟩
    replace c45:=Bool.eq_false_iff.mpr c45
    subst c45
    have H1:(laws_FnExactAllSolutions.j1 kj10 t119 t118 true) = some r:=by rw [if_neg (show ¬ (false = true) by decide)] at H;exact H
    clear H
    have H:=H1
    clear H1
    have H':=am H
    clear H
    obtain ⟨Ao48,co48,eo48⟩:=Kd.R_slice HO126.out
    subst eo48
    obtain ⟨Ao49,co49,eo49⟩:=Kd.R_slice HO_4.out
    subst eo49
    go_wp2_with (first | ((with_reducible refine gate_callee (f:=26) rfl ?_);refine goesL_ (some 57) rfl rfl Tryz.func26 k_r rfl #[.slice Ao48 t124.length co48,.slice Ao49 t106.length co49] rfl (by (try simp only [List.map_toArray,List.map_cons,List.map_nil]);first | done | rfl | (simp only [List.length_drop,List.length_take];rfl)) ?_;(with_reducible refine (laws_eqStringS.calls kj10 _ _ t124 _ _ t106 false _ ?side1 ?side2 ?side3 ?side4 A44.out).mono ?_);(case side1=>repeat (first | exact (Kd.R_reads' HO126.out).2.2 | (with_reducible refine Kd.C_alloc ?_ _) | (with_reducible refine Kd.C_drewN ?_ _) | (with_reducible refine Kd.C_drew ?_)));(case side2=>exact (Kd.R_reads' HO126.out).2.1);(case side3=>repeat (first | exact (Kd.R_reads' HO_4.out).2.2 | (with_reducible refine Kd.C_alloc ?_ _) | (with_reducible refine Kd.C_drewN ?_ _) | (with_reducible refine Kd.C_drew ?_)));(case side4=>exact (Kd.R_reads' HO_4.out).2.1);rintro e w' ⟨rfl,⟨nd,rfl⟩⟩;refine ⟨_,rfl,?_⟩))
    go_meet
    case rel=>exact ⟨_,(true),(by first | rfl | (simp;done) | (simp [*];done)),H',⟨by have:=HJ10.out;first | omega | exact Nat.le_refl _⟩,⟨by (with_reducible repeat (first | apply Kd.R_alloc | apply Kd.R_drewN | apply Kd.R_drew));exact Kd.R_mono HO_6.out (fun _ hk=>trivial)⟩,⟨by (with_reducible repeat (first | refine blk_drewN ?_ _ | refine blk_drew ?_ | refine blk_alloc ?_ _));exact BK101.out⟩,⟨by repeat (first | (with_reducible first | exact HB.out | apply below_alloc | apply pw_below_drewN | apply below_drew1 | refine below_set ?_ GE101.out) | exact HB.out)⟩⟩
   case rest =>
    clear HC37
    try clear c1
    try clear c2
    try clear p2
    try clear c3
    try clear c3b0
    try clear c4
    try clear c7
    try clear c16
    try clear c18
    try clear c22
    try clear c24
    try clear c25
    try clear c26
    try clear c27
    try clear c28
    try clear c30
    try clear c30b0
    try clear c34
    try clear c34b0
    try clear c34b1
    try clear c45
    try clear hcz13_0
    try clear hcz13_1
    try clear hcz13_2
    try clear hcz15_0
    try clear hcz15_1
    try clear hcz15_2
    try clear hcz18_0
    try clear hcz18_1
    try clear hcz18_2
    try clear hcz41_0
    try clear hcz41_1
    try clear hcz41_2
    try clear hcz5_0
    try clear hcz5_1
    try clear hcz5_2
    try clear hfz13_0
    try clear hfz13_1
    try clear hfz13_2
    try clear hfz15_0
    try clear hfz15_1
    try clear hfz15_2
    try clear hfz18_0
    try clear hfz18_1
    try clear hfz18_2
    try clear hfz41_0
    try clear hfz41_1
    try clear hfz41_2
    try clear hfz5_0
    try clear hfz5_1
    try clear hfz5_2
    try clear p2
    obtain ⟨kq,x63_36,rfl,HA,HJ36,HO_6,BK101,HB⟩:=hcut
    have hl6_36:=(Kd.R_reads' HO_6.out).1
    rw [hl6_36] at HO_6
    (try simp only [hl6_36])
    (try simp only [hl6_36] at BK101)
    cases kq with
    | zero=>exact absurd HA.out (by simp [laws_FnExactAllSolutions.j1])
    | succ kj36 =>
     have H:=HA.out
     clear HA
     simp only [laws_FnExactAllSolutions.j1] at H
     by_cases c50:x63_36 = true
     ·subst c50
      have H1:(some false) = some r:=by rw [if_pos rfl] at H;exact H
      clear H
      have H:=H1
      clear H1
      obtain rfl:=Option.some.inj H
      go_wp2
      go_ret
      exact ⟨by first | rfl | (simp [errW_none,errW_some] <;> rfl) | (simp [*,errW_none,errW_some] <;> rfl),by repeat (first | (with_reducible first | exact HB.out | apply below_alloc | apply pw_below_drewN | apply below_drew1 | refine below_set ?_ GE101.out) | exact HB.out)⟩
     replace c50:=Bool.eq_false_iff.mpr c50
     subst c50
     have H1:((laws_heldStringS.f kj36 t119 1).bind fun t129=>(if t129 < 0 then (some false) else (if t129 = t118 then (some true) else (some false)))) = some r:=by rw [if_neg (show ¬ (false = true) by decide)] at H;exact H
     clear H
     have H:=H1
     clear H1
     replace H:=Option.bind_eq_some_iff.mp H
     obtain ⟨t129,A510,H⟩:=H
     replace H:(if t129 < 0 then (some false) else (if t129 = t118 then (some true) else (some false))) = some r:=H
     have A51:=am A510
     clear A510
     by_cases c52:t129 < 0
     ·rw [if_pos c52] at H
      have c52b0:decide (t129 < 0) = true:=decide_eq_true c52
      clear c52
      obtain rfl:=Option.some.inj H
      go_wp2_with (first | ((with_reducible refine gate_callee (f:=28) rfl ?_);refine goesL_ (some 66) rfl rfl Tryz.func28 k_r rfl #[.slice Ao38 t119.length co38,.int .i64 1] rfl (by (try simp only [List.map_toArray,List.map_cons,List.map_nil]);first | done | rfl | (simp only [List.length_drop,List.length_take];rfl)) ?_;(with_reducible refine (laws_heldStringS.calls kj36 _ _ t119 1 t129 _ ?side1 ?side2 A51.out).mono ?_);(case side1=>repeat (first | exact (Kd.R_reads' HO_6.out).2.2 | (with_reducible refine Kd.C_alloc ?_ _) | (with_reducible refine Kd.C_drewN ?_ _) | (with_reducible refine Kd.C_drew ?_)));(case side2=>exact (Kd.R_reads' HO_6.out).2.1);rintro e w53 ⟨rfl,hb⟩;refine ⟨_,rfl,?_⟩;replace HO_6:=am (Kd.R_below (by (with_reducible repeat (first | apply Kd.R_alloc | apply Kd.R_drewN | apply Kd.R_drew));exact HO_6.out) hb);replace BK101:=am (blk_below (g:=gb101) (o:=.cells #[.string a0_0,.string a0_1,.int .i64 a0_2] 26 (0,0)) (by (with_reducible repeat (first | refine blk_drewN ?_ _ | refine blk_drew ?_ | refine blk_alloc ?_ _));exact BK101.out) hb);replace HB:=am (below_step (by repeat (first | (with_reducible first | exact HB.out | apply below_alloc | apply pw_below_drewN | apply below_drew1 | refine below_set ?_ GE101.out) | exact HB.out)) hb);(try clear hb)))
      go_ret
      exact ⟨by first | rfl | (simp [errW_none,errW_some] <;> rfl) | (simp [*,errW_none,errW_some] <;> rfl),by repeat (first | (with_reducible first | exact HB.out | apply below_alloc | apply pw_below_drewN | apply below_drew1 | refine below_set ?_ GE101.out) | exact HB.out)⟩
     rw [if_neg c52] at H
     have c52b0:decide (t129 < 0) = false:=decide_eq_false c52
     clear c52
     by_cases c54:t129 = t118
     rotate_left
     ·rw [if_neg c54] at H
      have c54b0:(t129 == t118) = false:=beq_eq_false_iff_ne.mpr c54
      have c54b1:(t129 != t118) = true:=bne_iff_ne.mpr c54
      obtain rfl:=Option.some.inj H
      go_wp2_with (first | ((with_reducible refine gate_callee (f:=28) rfl ?_);refine goesL_ (some 66) rfl rfl Tryz.func28 k_r rfl #[.slice Ao38 t119.length co38,.int .i64 1] rfl (by (try simp only [List.map_toArray,List.map_cons,List.map_nil]);first | done | rfl | (simp only [List.length_drop,List.length_take];rfl)) ?_;(with_reducible refine (laws_heldStringS.calls kj36 _ _ t119 1 t129 _ ?side1 ?side2 A51.out).mono ?_);(case side1=>repeat (first | exact (Kd.R_reads' HO_6.out).2.2 | (with_reducible refine Kd.C_alloc ?_ _) | (with_reducible refine Kd.C_drewN ?_ _) | (with_reducible refine Kd.C_drew ?_)));(case side2=>exact (Kd.R_reads' HO_6.out).2.1);rintro e w56 ⟨rfl,hb⟩;refine ⟨_,rfl,?_⟩;replace HO_6:=am (Kd.R_below (by (with_reducible repeat (first | apply Kd.R_alloc | apply Kd.R_drewN | apply Kd.R_drew));exact HO_6.out) hb);replace BK101:=am (blk_below (g:=gb101) (o:=.cells #[.string a0_0,.string a0_1,.int .i64 a0_2] 26 (0,0)) (by (with_reducible repeat (first | refine blk_drewN ?_ _ | refine blk_drew ?_ | refine blk_alloc ?_ _));exact BK101.out) hb);replace HB:=am (below_step (by repeat (first | (with_reducible first | exact HB.out | apply below_alloc | apply pw_below_drewN | apply below_drew1 | refine below_set ?_ GE101.out) | exact HB.out)) hb);(try clear hb)))
      go_ret
      exact ⟨by first | rfl | (simp [errW_none,errW_some] <;> rfl) | (simp [*,errW_none,errW_some] <;> rfl),by repeat (first | (with_reducible first | exact HB.out | apply below_alloc | apply pw_below_drewN | apply below_drew1 | refine below_set ?_ GE101.out) | exact HB.out)⟩
     rw [if_pos c54] at H
     have c54b0:(t129 == t118) = true:=beq_iff_eq.mpr c54
     have c54b1:(t129 != t118) = false:=bne_eq_false_iff_eq.mpr c54
     clear c54
     obtain rfl:=Option.some.inj H
     go_wp2_with (first | ((with_reducible refine gate_callee (f:=28) rfl ?_);refine goesL_ (some 66) rfl rfl Tryz.func28 k_r rfl #[.slice Ao38 t119.length co38,.int .i64 1] rfl (by (try simp only [List.map_toArray,List.map_cons,List.map_nil]);first | done | rfl | (simp only [List.length_drop,List.length_take];rfl)) ?_;(with_reducible refine (laws_heldStringS.calls kj36 _ _ t119 1 t129 _ ?side1 ?side2 A51.out).mono ?_);(case side1=>repeat (first | exact (Kd.R_reads' HO_6.out).2.2 | (with_reducible refine Kd.C_alloc ?_ _) | (with_reducible refine Kd.C_drewN ?_ _) | (with_reducible refine Kd.C_drew ?_)));(case side2=>exact (Kd.R_reads' HO_6.out).2.1);rintro e w55 ⟨rfl,hb⟩;refine ⟨_,rfl,?_⟩;replace HO_6:=am (Kd.R_below (by (with_reducible repeat (first | apply Kd.R_alloc | apply Kd.R_drewN | apply Kd.R_drew));exact HO_6.out) hb);replace BK101:=am (blk_below (g:=gb101) (o:=.cells #[.string a0_0,.string a0_1,.int .i64 a0_2] 26 (0,0)) (by (with_reducible repeat (first | refine blk_drewN ?_ _ | refine blk_drew ?_ | refine blk_alloc ?_ _));exact BK101.out) hb);replace HB:=am (below_step (by repeat (first | (with_reducible first | exact HB.out | apply below_alloc | apply pw_below_drewN | apply below_drew1 | refine below_set ?_ GE101.out) | exact HB.out)) hb);(try clear hb)))
     go_ret
     exact ⟨by first | rfl | (simp [errW_none,errW_some] <;> rfl) | (simp [*,errW_none,errW_some] <;> rfl),by repeat (first | (with_reducible first | exact HB.out | apply below_alloc | apply pw_below_drewN | apply below_drew1 | refine below_set ?_ GE101.out) | exact HB.out)⟩
end Go.Proofs.YtldhkbiomingbaaGreatDoor.F

namespace Go.Proofs.YtldhkbiomingbaaGreatDoor.F
open Go.RowKit Go.Proofs.YtldhkbiomingbaaGreatDoor Go.YW.PrintWords Go.YW.PrintMore
theorem FnExactAllSolutions (t n:ByteArray) (g:Int) (ht:t.size ≤ 9223372036854775807) (hn:n.size ≤ 9223372036854775807) (hg:(Lit.int .i64 g).wf = true):∃ k,laws_FnExactAllSolutions.f k t n g = some true:=by
 refine Ev.rounds (g:=fun k=>laws_FnExactAllSolutions.f k t n g) ?_
 unfold laws_FnExactAllSolutions.f
 obtain ⟨r,hr,hrs⟩:=szPuzzle_ok (g:=g) ht hn
 refine Ev.congr (fun k=>by rw [hr,Option.bind_some]) ?_
 by_cases h0:r < 0
 ·exact Ev.congr (fun k=>if_pos h0) (Ev.now _)
 obtain ⟨h1,h2⟩:=hrs o_m
 refine Ev.congr (fun k=>if_neg h0) ?_
 have hP:laws_toPuzzle.f t n g = some (t,n,g):=rfl
 have hI:impl_AllSolutions.f t n g = some (allA t n g):=by unfold impl_AllSolutions.f;rw [if_pos o_m]
 have hS:spec_AllSolutions.f t n g = some (allA t n g):=rfl
 have hlen:=allA_len (t:=t) (n:=n) (goal:=g)
 refine Ev.congr (fun k=>by rw [hP,Option.bind_some,hS,Option.bind_some,Option.bind_some,hI,Option.bind_some]) ?_
 generalize allA t n g = R at hI hS hlen
 have hE:=eqL_ev R.1 o_m
 have hM:=markL_ev R.1 o_m
 have hH:=heldL_ev R.1.length o_m
 have hend:Ev (fun k=>laws_FnExactAllSolutions.j1 k (marksL 1 R.1.length) ((1 + R.1.length:Nat):Int) false) true:=by
  refine Ev.step (fun k=>by rw [laws_FnExactAllSolutions.j1,if_neg Bool.false_ne_true]) (Ev.bind hH ?_)
  exact Ev.congr (fun k=>by rw [if_neg o_m,if_pos rfl]) (Ev.now _)
 have hmid:Ev (fun k=>laws_FnExactAllSolutions.j0 k R.1 R.2 R.1 false t n g) true:=by
  refine Ev.step (fun k=>by rw [laws_FnExactAllSolutions.j0,if_neg Bool.false_ne_true]) (Ev.bind hM (Ev.bind hH ?_))
  refine Ev.congr (fun k=>by rw [if_neg o_m,if_pos rfl,hP,Option.bind_some,hI,Option.bind_some]) (Ev.bind hE ?_)
  refine Ev.congr (fun k=>if_pos rfl) ?_
  rw [bne_self_eq_false]
  exact hend
 refine Ev.bind hE ?_
 refine Ev.congr (fun k=>if_pos rfl) ?_
 rw [bne_self_eq_false]
 exact hmid
end Go.Proofs.YtldhkbiomingbaaGreatDoor.F
