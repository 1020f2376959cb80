/- The proof that the law's row holds, part 6: the kit's words, the printed walks and the plain law. No conditions beyond the card's own. -/
import Derived.Maps.OwnSet
import Derived.StringKeys
import Derived.Lib.SlBytesConst
import Derived.Test.YtldhkbiomingbaaGreatDoorK0
import Derived.Test.YtldhkbiomingbaaGreatDoorK1
import Derived.Test.YtldhkbiomingbaaGreatDoorK2
import Derived.Test.YtldhkbiomingbaaGreatDoorK3
import Derived.Test.YtldhkbiomingbaaGreatDoorK4
import Derived.Test.YtldhkbiomingbaaGreatDoorK5
set_option linter.unusedVariables false
set_option linter.unusedSimpArgs false
set_option maxHeartbeats 8000000
set_option maxRecDepth 100000
namespace Go.Proofs.YtldhkbiomingbaaGreatDoor.F
open Go.Proofs.YtldhkbiomingbaaGreatDoor
open Go.RowKit Go.YW.PrintWords Go.YW.PrintLast Go.YW.PrintMore Go.Lib Go.Maps
attribute [local go_sem] max2_int min2_int
def impl_reachOf.f (t:ByteArray):Option (List ByteArray × List Int × List (List Int) × List ByteArray × Bool):=if t.size < 4294967281 then some (match srch t with
 | none=>([],[],[],[],false)
 | some (w,h,s)=>(rT w h s,castsI s.F,s.N.map castsI,rW s,true)) else none
def RchRes (w w':World) (e:Ending) (r1:List ByteArray) (r2:List Int) (r3:List (List Int)) (r4:List ByteArray) (r5:Bool):Prop :=
 ∃ v0_ v1_ v2_ v3_:Value,e = .returned (.tuple #[.agg #[v0_,v1_,v2_,v3_],.bool r5]) ∧ Kd.R Kd.string 9 w' w.heap.size (fun k_=>some k_ ≠ (v3_:Value).ownBlock) v0_ r1 ∧ Kd.R (Kd.int .i64) 3 w' w.heap.size (fun _=>True) v1_ r2 ∧ Kd.S (Kd.slice 3 (Kd.int .i64)) 40 w' w.heap.size (fun k_=>some k_ ≠ (v1_:Value).ownBlock) v2_ r3 ∧ Kd.R Kd.string 9 w' w.heap.size (fun k_=>some k_ ≠ (v0_:Value).ownBlock) v3_ r4 ∧ Below w.heap.size w w'
theorem wpList_insert_own {H:Type} {P:Program} (w:World) {ops:Array Oper} {rest:List Oper} {o:Oper} {a:Act} {Q:Exit → Act → World → Prop}
  (hg:o.guard = none) (m x v:Operand) (t:TypeId) (hop:o.op = Op.insert t m x v)
  (k e:TypeId) (K:Keyed P k) (ht:P.underlying t = some (.map k e)) (R:Value → Option (DataW H × List MemPlace)) (b n:Nat) (D:DataW H)
  (hm:a.eval m = .map (some b)) (hown:w.ownsMap P k R b n D) (hn:n < maxLen) (key val:Value) (kl:Lit) (hx:a.eval x = key) (hv:a.eval v = val) (hkey:keyOf P k key = some kl)
  (d:DataW H) (ps:List MemPlace) (hval:R val = some (d,ps))
  (hK:∀ w',w'.ownsMap P k R b (n + 1) (D.put kl d) → w.grownBy w' (some b) → wpList P ops Q rest (a.put o.dst undef) w') :
  wpList P ops Q (o :: rest) a w:=by
 obtain ⟨w',hrun,r1,r2⟩:=hown.update K ht hn hkey hval
 have h2:=hK w' r1 r2
 refine wpList_plain hg fun K' hK'=>?_
 unfold Oper.wp
 simp [execOp,hop,hm,hx,hv,hrun,Result.andThen]
 exact hK' _ _ h2
theorem gate_insert {P:Program} {ops:Array Oper} {rest:List Oper} {o:Oper} {a:Act} {Q:Exit → Act → World → Prop} {W:World} {t:TypeId} {m x v:Operand} (_ho:o.op = Op.insert t m x v) (h:wpList P ops Q (o :: rest) a W):wpList P ops Q (o :: rest) a W:=h
def set4 (W:World) (b:Nat) (u0 u1 u2 u3:Value):World:=(((W.setCell ⟨b,0,none⟩ u0).setCell ⟨b,1,none⟩ u1).setCell ⟨b,2,none⟩ u2).setCell ⟨b,3,none⟩ u3
theorem blk_set4 {W:World} {b:Nat} {x0 x1 x2 x3:Value} {t:TypeId} (hb:W.heap[b]? = some (.cells #[x0,x1,x2,x3] t (0,0))) (u0 u1 u2 u3:Value) :
  (set4 W b u0 u1 u2 u3).heap[b]? = some (.cells #[u0,u1,u2,u3] t (0,0)):=(blk_set (blk_set (blk_set (blk_set hb 0 u0) 1 u1) 2 u2) 3 u3).trans rfl
theorem below_set4 {w W:World} {b base:Nat} (h:Below base w W) (hb:base ≤ b) (u0 u1 u2 u3:Value):Below base w (set4 W b u0 u1 u2 u3) :=
 (((h.setCell (p:=⟨b,0,none⟩) hb u0).setCell (p:=⟨b,1,none⟩) hb u1).setCell (p:=⟨b,2,none⟩) hb u2).setCell (p:=⟨b,3,none⟩) hb u3
theorem heap_set4 (W:World) (b:Nat) (u0 u1 u2 u3:Value) {k:Nat} (hk:k ≠ b):(set4 W b u0 u1 u2 u3).heap[k]? = W.heap[k]? :=
 (Below.heap_setCell _ _ u3 k hk).trans ((Below.heap_setCell _ _ u2 k hk).trans ((Below.heap_setCell _ _ u1 k hk).trans (Below.heap_setCell _ _ u0 k hk)))
theorem info59:(Tryz.prog.info? 59).map (·.size) = some 4:=by kernel_rfl
theorem str_keys:Keyed Tryz.prog 9:=string_keyed Tryz.underlying9
abbrev mapK (w:World) (b n:Nat) (D:DataW Unit):Prop:=w.ownsMap Tryz.prog 9 (plainElem (H:=Unit) Tryz.prog 3) b n D
theorem mapK_heap {w w':World} {b n:Nat} {D:DataW Unit} (h:mapK w b n D) (hb:w'.heap[b]? = w.heap[b]?):mapK w' b n D:=by
 obtain ⟨es,clock,h1,h2⟩:=h
 exact ⟨es,clock,hb.trans h1,h2⟩
theorem zero_lt_max:0 < maxLen:=by unfold maxLen;omega
theorem elem0:plainElem (H:=Unit) Tryz.prog 3 (.int .i64 0) = some (.lit (.int .i64 0),[]):=plainElem_int Tryz.underlying3 d_c
theorem mapK_ne {w:World} {b n g:Nat} {D:DataW Unit} {cs:Array Value} {t:TypeId} {fr:Nat × Nat} (h:mapK w b n D) (hg:w.heap[g]? = some (.cells cs t fr)):b ≠ g:=by
 obtain ⟨es,clock,h1,h2⟩:=h
 rintro rfl
 rw [h1] at hg;cases hg
theorem mapK_own {α:Type} {d:Kd α} {e base:Nat} {ok:Nat → Prop} {v:Value} {xs:List α} {w:World} {b n:Nat} {D:DataW Unit} (h:mapK w b n D) (hr:d.R e w base ok v xs):some b ≠ v.ownBlock:=by
 intro hk
 obtain ⟨_,_,q,_,cs,hc⟩:=(Kd.R_bound hr).1 b hk.symm |>.2
 exact mapK_ne h hc rfl
structure RchAt (w W:World) (gw gh:Nat) (cs:List Int) (s:RS) (b4 b5:Nat) (v0 v1 v2 v3:Value):Prop where
 ok:RS.Ok gw gh cs s
 bel:Below w.heap.size w W
 b4w:w.heap.size ≤ b4
 b5w:w.heap.size ≤ b5
 blk:W.heap[b4]? = some (.cells #[v0,v1,v2,v3] 59 (0,0))
 map:∃ n,n ≤ s.T.length ∧ mapK W b5 n (placesD (rT gw gh s))
 r0:Kd.R Kd.string 9 W w.heap.size (fun k=>some k ≠ v3.ownBlock) v0 (rT gw gh s)
 r1:Kd.R (Kd.int .i64) 3 W w.heap.size (fun _=>True) v1 (castsI s.F)
 r2:Kd.S (Kd.slice 3 (Kd.int .i64)) 40 W w.heap.size (fun k=>some k ≠ v1.ownBlock) v2 (s.N.map castsI)
 r3:Kd.R Kd.string 9 W w.heap.size (fun k=>some k ≠ v0.ownBlock) v3 (rW s)
theorem R_cells {α:Type} {enc:α → Value} {h1:∀ x,(enc x).oneCell' = true} {e base:Nat} {ok:Nat → Prop} {W:World} {v:Value} {xs:List α} (h:(Kd.scalar enc h1).R e W base ok v xs) (hp:0 < xs.length) :
  ∃ g c,v = .slice (some ⟨g,0,none⟩) xs.length c ∧ xs.length ≤ c ∧ base ≤ g ∧ g < W.heap.size ∧ (∃ cells,W.heap[g]? = some (.cells cells e (0,0))) ∧ ∀ j x,xs[j]? = some x → W.cell? ⟨g,j,none⟩ = some (enc x):=by
 obtain ⟨g,c,rfl,hb,hlt,hc⟩:=Kd.R_form h hp
 obtain ⟨_,hle,hC⟩:=Kd.R_reads' h
 obtain ⟨bk,o,e2,_,hcs⟩:=C_place hC hp
 injection e2 with e2
 injection e2 with e2 e3
 subst e2 e3
 exact ⟨g,c,rfl,hle,hb,hlt,hc,fun j x hj=>by have:=hcs j x hj;rwa [Nat.zero_add] at this⟩
theorem own_lt {α:Type} {d:Kd α} {e base:Nat} {ok:Nat → Prop} {v:Value} {xs:List α} {w:World} (h:d.R e w base ok v xs):∀ k,v.ownBlock = some k → k < w.heap.size:=fun k hk=>((Kd.R_bound h).1 k hk).2.2.1
theorem own_type {α:Type} {d:Kd α} {e base:Nat} {ok:Nat → Prop} {v:Value} {xs:List α} {w:World} {g:Nat} {cells:Array Value} {t:TypeId} {fr:Nat × Nat} (hE:d.E = []) (h:d.R e w base ok v xs) (hg:w.heap[g]? = some (.cells cells t fr)) (hne:e ≠ t):some g ≠ v.ownBlock:=by
 intro hk
 obtain ⟨_,_,_,q,hq,cs,hc⟩:=(Kd.R_bound h).1 g hk.symm
 rw [hE,List.mem_singleton] at hq
 subst hq
 rw [hg] at hc
 injection hc with hc
 injection hc with _ hc
 exact hne hc.symm
theorem zero_i (w:World):(zeroValue 3).run Tryz.prog w = .ok (.int .i64 0) w:=by kernel_rfl
theorem dir_ix {d:Nat} (hd:d < 4):isDirC (dirB d) = true ∧ (dirIx (dirB d)).toNat = d:=by
 rcases (by omega:d = 0 ∨ d = 1 ∨ d = 2 ∨ d = 3) with rfl | rfl | rfl | rfl <;> exact ⟨by decide,by decide⟩
theorem RchAt.below {w W W':World} {gw gh:Nat} {cs:List Int} {s:RS} {b4 b5:Nat} {v0 v1 v2 v3:Value} (h:RchAt w W gw gh cs s b4 b5 v0 v1 v2 v3) (hb:Below W.heap.size W W'):RchAt w W' gw gh cs s b4 b5 v0 v1 v2 v3:=by
 obtain ⟨n,hn,hm⟩:=h.map
 exact ⟨h.ok,below_step h.bel hb,h.b4w,h.b5w,blk_below h.blk hb,⟨n,hn,mapK_heap hm (hb.block b5 hm.lt)⟩,Kd.R_below h.r0 hb,Kd.R_below h.r1 hb,Kd.S_below h.r2 hb,Kd.R_below h.r3 hb⟩
structure OthAt (W5 W:World) (KS:Nat → Prop) (b4 b5:Nat) (v0 v1 v3 v8:Value):Prop where
 keep:∀ k,KS k → W.heap[k]? = W5.heap[k]?
 lt:∀ k,KS k → k < W.heap.size
 ne:∀ k,KS k → some k ≠ v0.ownBlock ∧ some k ≠ v1.ownBlock ∧ some k ≠ v3.ownBlock ∧ some k ≠ v8.ownBlock ∧ k ≠ b4 ∧ k ≠ b5
theorem OthAt.below {W5 W W':World} {KS:Nat → Prop} {b4 b5:Nat} {v0 v1 v3 v8:Value} (h:OthAt W5 W KS b4 b5 v0 v1 v3 v8) (hb:Below W.heap.size W W'):OthAt W5 W' KS b4 b5 v0 v1 v3 v8 :=
 ⟨fun k hk=>(hb.block k (h.lt k hk)).trans (h.keep k hk),fun k hk=>Nat.lt_of_lt_of_le (h.lt k hk) hb.size,h.ne⟩
theorem seeS_found {w h k d:Nat} {s:RS} {P:List Nat} {c:List Int} (hd:d < 4) (hc:tiltD w h d (s.T.getD k []) = c) (hf:findT s.T c < s.T.length) :
  seeAll w h k (([0,1,2,3]:List Nat).drop d) s P = seeAll w h k (([0,1,2,3]:List Nat).drop (d + 1)) s (P ++ [findT s.T c]):=by
 rw [drop_dirs hd]
 show (seeD w h k d s).bind _ = _
 have e:seeD w h k d s = some (s,findT s.T c):=by
  unfold seeD
  simp only [hc]
  rw [if_pos hf]
 rw [e];rfl
theorem seeS_full {w h k d:Nat} {s:RS} {P:List Nat} {c:List Int} (hd:d < 4) (hc:tiltD w h d (s.T.getD k []) = c) (hf:¬ findT s.T c < s.T.length) (h3:s.T.length = 300) :
  seeAll w h k (([0,1,2,3]:List Nat).drop d) s P = none:=by
 rw [drop_dirs hd]
 show (seeD w h k d s).bind _ = _
 have e:seeD w h k d s = none:=by
  unfold seeD
  simp only [hc]
  rw [if_neg hf,if_pos h3]
 rw [e];rfl
theorem seeS_new {w h k d:Nat} {s:RS} {P:List Nat} {c:List Int} (hd:d < 4) (hc:tiltD w h d (s.T.getD k []) = c) (hf:¬ findT s.T c < s.T.length) (h3:¬ s.T.length = 300) :
  seeAll w h k (([0,1,2,3]:List Nat).drop d) s P = seeAll w h k (([0,1,2,3]:List Nat).drop (d + 1)) (pushD s k d c) (P ++ [s.T.length]):=by
 rw [drop_dirs hd]
 show (seeD w h k d s).bind _ = _
 rw [seeD_new hc hf h3];rfl
theorem rT_at {w h:Nat} {s:RS} {c:List Int} (hf:findT s.T c < s.T.length) (hi:findT s.T c < (rT w h s).length):(rT w h s)[findT s.T c]'hi = textB (w,h,c) :=
 (List.getElem_map (fun c=>textB (w,h,c))).trans (congrArg (fun c=>textB (w,h,c)) (findT_get hf))
theorem RchAt.next {w W W' w5:World} {gw gh:Nat} {cs:List Int} {s:RS} {b4 b5:Nat} {v0 v1 v2 v3 v8 v8':Value} {L:List Int} {KS:Nat → Prop} (h:RchAt w W gw gh cs s b4 b5 v0 v1 v2 v3)
  (h8:Kd.R (Kd.int .i64) 3 W w.heap.size (fun k=>some k ≠ v1.ownBlock) v8 L) (h2:Kd.S (Kd.slice 3 (Kd.int .i64)) 40 W w.heap.size (fun k=>some k ≠ v1.ownBlock ∧ some k ≠ v8.ownBlock) v2 (s.N.map castsI)) (hk:OthAt w5 W KS b4 b5 v0 v1 v3 v8)
  (hb:Below w.heap.size w W') (hg:W.grownBy W' v8.ownBlock) (hat:v8'.ownBlock = v8.ownBlock ∨ ∃ b,v8'.ownBlock = some b ∧ W.heap.size ≤ b) :
  RchAt w W' gw gh cs s b4 b5 v0 v1 v2 v3 ∧ Kd.S (Kd.slice 3 (Kd.int .i64)) 40 W' w.heap.size (fun k=>some k ≠ v1.ownBlock ∧ some k ≠ v8'.ownBlock) v2 (s.N.map castsI) ∧ OthAt w5 W' KS b4 b5 v0 v1 v3 v8':=by
 obtain ⟨n,hn,hm⟩:=h.map
 have hS:=Kd.S_after h2 hg hat
 refine ⟨⟨h.ok,hb,h.b4w,h.b5w,blk_grown h.blk hg (own_type rfl h8 h.blk d_c),⟨n,hn,mapK_heap hm (hg.block b5 hm.lt (mapK_own hm h8))⟩,?_,?_,Kd.S_mono hS (fun _ hk=>hk.1),?_⟩,hS,?_⟩
 ·exact Kd.R_over h.r0 h8 d_c hg
 ·exact Kd.R_mono (Kd.R_grown (Kd.R_tight rfl h.r1) hg (fun k hk e=>h8.1 k e.symm hk)) (fun _ _=>trivial)
 ·exact Kd.R_over h.r3 h8 d_c hg
 ·refine ⟨fun k hx=>(hg.block k (hk.lt k hx) (hk.ne k hx).2.2.2.1).trans (hk.keep k hx),fun k hx=>Nat.lt_of_lt_of_le (hk.lt k hx) hg.size,fun k hx=>?_⟩
  obtain ⟨q0,q1,q3,q8,q4,q5⟩:=hk.ne k hx
  refine ⟨q0,q1,q3,?_,q4,q5⟩
  rcases hat with e | ⟨b,e,hle⟩
  ·rw [e];exact q8
  ·rw [e]
   intro e2
   injection e2 with e2
   have:=hk.lt k hx
   omega
theorem RchAt.push {w W W1:World} {gw gh:Nat} {cs:List Int} {s:RS} {b4 b5:Nat} {v0 v1 v2 v3 v2':Value} {P:List Nat} (h:RchAt w W gw gh cs s b4 b5 v0 v1 v2 v3)
  (h2':Kd.S (Kd.slice 3 (Kd.int .i64)) 40 W1 w.heap.size (fun k=>some k ≠ v1.ownBlock) v2' (s.N.map castsI ++ [castsI P])) (hb:Below w.heap.size w W1) (hg:W.grownBy W1 v2.ownBlock) :
  RchAt w (W1.setCell ⟨b4,2,none⟩ v2') gw gh cs { s with N:=s.N ++ [P] } b4 b5 v0 v1 v2' v3:=by
 obtain ⟨n,hn,hm⟩:=h.map
 have o:=h.ok
 have hr2:=Kd.S_R h.r2
 have hblk:=blk_grown h.blk hg (Kd.S_ne h.r2 h.blk d_c)
 have hm1:mapK W1 b5 n (placesD (rT gw gh s)):=mapK_heap hm (hg.block b5 hm.lt (mapK_own hm hr2))
 refine ⟨⟨o.lF,o.lW,o.lB,o.most,o.pos,o.tray,o.nodup,o.dirs,o.far,o.run,o.back,o.first⟩,hb.setCell (p:=⟨b4,2,none⟩) h.b4w _,h.b4w,h.b5w,(blk_set hblk 2 v2').trans rfl,⟨n,hn,mapK_heap hm1 (Below.heap_setCell _ _ _ _ (mapK_ne hm1 hblk))⟩,?_,?_,?_,?_⟩
 ·exact Kd.R_mono (Kd.R_far (p:=⟨b4,2,none⟩) (Kd.R_types (Kd.R_over h.r0 hr2 d_c hg) hblk d_c) (fun _ hk=>hk.2) v2') (fun _ hk=>hk.1)
 ·exact Kd.R_mono (Kd.R_far (p:=⟨b4,2,none⟩) (Kd.R_types (Kd.R_over h.r1 hr2 d_c hg) hblk d_c) (fun _ hk=>hk.2) v2') (fun _ hk=>hk.1)
 ·show Kd.S _ _ _ _ _ _ ((s.N ++ [P]).map castsI)
  rw [List.map_append]
  exact Kd.S_mono (Kd.S_far (p:=⟨b4,2,none⟩) (Kd.S_types h2' hblk d_c) (fun _ hk=>hk.2) v2') (fun _ hk=>hk.1)
 ·exact Kd.R_mono (Kd.R_far (p:=⟨b4,2,none⟩) (Kd.R_types (Kd.R_over h.r3 hr2 d_c hg) hblk d_c) (fun _ hk=>hk.2) v2') (fun _ hk=>hk.1)
theorem R_el {α:Type} {enc:α → Value} {h1:∀ x,(enc x).oneCell' = true} {e base g n c:Nat} {ok:Nat → Prop} {W:World} {xs:List α} {j:Nat} {x:α} (h:(Kd.scalar enc h1).R e W base ok (.slice (some ⟨g,0,none⟩) n c) xs) (hj:xs[j]? = some x):W.cell? ⟨g,j,none⟩ = some (enc x):=by
 obtain ⟨g',c',e,_,_,_,_,hc⟩:=R_cells h (by have:=(List.getElem?_eq_some_iff.1 hj).1;omega)
 injection e with e
 injection e with e
 injection e with e
 rw [e]
 exact hc j x hj
def rch.T18:Bool × List (List Nat × List Nat):=(true,[([],[]),([0],[0]),([],[]),([2],[2]),([1,3],[1,3]),([],[]),([5],[5]),([],[]),([7],[7]),([],[]),([8,9],[8,9]),([10],[10]),([11],[11]),([12],[12]),([6,13,4],[6,13]),([],[]),([15],[15]),([],[]),([17],[17]),([],[]),([18,19],[18,19]),([20],[20]),([],[]),([22],[22]),([23],[23]),([21,24],[21,24]),([25],[25]),([16,26,14],[16,26]),([0,1,2,3,4,5,6,7,8,15,16,17,18],[]),([28,4,27,0,1,2,3,4,5,6,7,8,15,16,17,18],[4,28]),([0,1,2,3,4,5,6,7,8,9,10,11,12,13,14,15,16,17,18,28,29],[]),([30,14,29,0,1,2,3,4,5,6,7,8,9,10,11,12,13,14,15,16,17,18,28,29],[14,30]),([0,1,2,3,4,5,6,7,8,9,10,11,12,13,14,15,16,17,18,19,20,21,22,23,24,25,26,27,28,29,30,31],[]),([32,27,31,0,1,2,3,4,5,6,7,8,9,10,11,12,13,14,15,16,17,18,19,20,21,22,23,24,25,26,27,28,29,30,31],[27,32])])
def rch.B18:List Nat:=[0,1,0,4,15,0,32,0,128,0,896,1920,3968,8064,16383,0,32768,0,131072,0,917504,1966080,0,4194304,12582912,33423360,66977792,134217727,492031,536870911,1073741823,2147483647,4294967295,8589934591]
theorem rch.tab18:rtab .any (opsOf Tryz.f74 18) = rch.T18:=by kernel_rfl
theorem rch.bits18:waitsOk rch.T18.2 rch.B18 = true:=by kernel_rfl
theorem placesD_one (t:ByteArray):placesD [t] = (DataW.map []).put (.string t.data.toList) (.lit (.int .i64 0)):=rfl
theorem impl_reachOf.calls (t:ByteArray) (r1:List ByteArray) (r2:List Int) (r3:List (List Int)) (r4:List ByteArray) (r5:Bool) (w:World) (h:impl_reachOf.f t = some (r1,r2,r3,r4,r5)) :
  Calls Tryz.prog 74 #[.string t] w fun e w'=>∃ v0_ v1_ v2_ v3_:Value,e = .returned (.tuple #[.agg #[v0_,v1_,v2_,v3_],.bool r5]) ∧ Kd.R Kd.string 9 w' w.heap.size (fun k_=>some k_ ≠ (v3_:Value).ownBlock) v0_ r1 ∧ Kd.R (Kd.int .i64) 3 w' w.heap.size (fun _=>True) v1_ r2 ∧ Kd.S (Kd.slice 3 (Kd.int .i64)) 40 w' w.heap.size (fun k_=>some k_ ≠ (v1_:Value).ownBlock) v2_ r3 ∧ Kd.R Kd.string 9 w' w.heap.size (fun k_=>some k_ ≠ (v0_:Value).ownBlock) v3_ r4 ∧ Below w.heap.size w w':=by
 unfold impl_reachOf.f at h
 split at h
 case isFalse=>cases h
 rename_i hsz
 obtain ⟨K,hK⟩:=impl_IsTray_ev t hsz
 have hist:=hK K (Nat.le_refl _)
 show Calls _ _ _ _ fun e w'=>RchRes w w' e r1 r2 r3 r4 r5
 have HSZ:=am hsz
 have HB:=am (Below.refl w.heap.size w)
 have hmm:=@run_makeMap Tryz.prog
 clear hsz hK
 cases hg:tyGrid (bytesOf t) with
 | none =>
  rw [hg] at hist
  have HIS:=am (show impl_IsTray.f K t = some false from hist)
  have HS:=am (show srch t = none by unfold srch;rw [hg])
  rw [HS.out] at h
  simp only [Option.some.injEq,Prod.mk.injEq] at h
  obtain ⟨rfl,rfl,rfl,rfl,rfl⟩:=h
  clear hist hg HS
  go_enter Tryz.func74,Tryz.ntmps74
  go_wp2_with (first
   | (refine bx 2 #[.slice none 0 0,.slice none 0 0,.slice none 0 0,.slice none 0 0] 59 ?_;intro b2 hg2 w1 hbox1 hb1;have X1:=am hbox1;have G2:=am (show w.heap.size ≤ b2 by rw [hg2];exact Nat.le_refl _);have HB1:=am hb1;clear hg2 hbox1 hb1)
   | (go_at_call 102;refine (impl_IsTray.calls K t _ _ HIS.out).mono ?_;rintro e w2 ⟨rfl,hb2⟩;have X2:=am (blk_below X1.out hb2);have HB2:=am (below_step HB1.out hb2);have y0:w2.cell? ⟨b2,0,none⟩ = some (.slice none 0 0):=(blk_cell X2.out 0).trans rfl;have y1:w2.cell? ⟨b2,1,none⟩ = some (.slice none 0 0):=(blk_cell X2.out 1).trans rfl;have y2:w2.cell? ⟨b2,2,none⟩ = some (.slice none 0 0):=(blk_cell X2.out 2).trans rfl;have y3:w2.cell? ⟨b2,3,none⟩ = some (.slice none 0 0):=(blk_cell X2.out 3).trans rfl;have f0:=blk_frozen X2.out 0;have f1:=blk_frozen X2.out 1;have f2:=blk_frozen X2.out 2;have f3:=blk_frozen X2.out 3;clear hb2))
  refine bodyPost_ret (results_ct rfl _ _ b2 59 #[.slice none 0 0,.slice none 0 0,.slice none 0 0,.slice none 0 0] (0,0) _ rfl (blk_set4 X2.out _ _ _ _) Tryz.underlying59 rfl info59) rfl ?_
  exact ⟨_,_,_,_,rfl,Kd.R_nil _ _ _ _ _,Kd.R_nil _ _ _ _ _,Kd.S_nil _ _ _ _ _,Kd.R_nil _ _ _ _ _,below_set4 HB2.out G2.out _ _ _ _⟩
 | some g0 =>
  obtain ⟨gw,gh,cs⟩:=g0
  obtain ⟨vg,etx⟩:=textB_grid hg
  rw [hg] at hist
  have HIS:=am (show impl_IsTray.f K t = some true from hist)
  have HS:=am (show srch t = (reachD gw gh cs).map fun s=>(gw,gh,s) by unfold srch;rw [hg])
  have HV:=am vg
  have HT:=am etx
  have HH:=am h
  clear hist hg vg etx h
  have hts:t.size ≤ maxLen:=by have:=HSZ.out;unfold maxLen;omega
  have HKEY:=am (WideMaps.keyOf_string_mk (P:=Tryz.prog) (k:=9) Tryz.underlying9 hts)
  clear hts
  go_enter Tryz.func74,Tryz.ntmps74
  go_wp2_with (first
   | (refine bx 2 #[.slice none 0 0,.slice none 0 0,.slice none 0 0,.slice none 0 0] 59 ?_;intro b2 hg2 w1 hbox1 hb1;have X1:=am hbox1;have G2:=am (show w.heap.size ≤ b2 by rw [hg2];exact Nat.le_refl _);have HB1:=am hb1;clear hg2 hbox1 hb1)
   | (go_at_call 102;refine (impl_IsTray.calls K t _ _ HIS.out).mono ?_;rintro e w2 ⟨rfl,hb2⟩;have X2:=am (blk_below X1.out hb2);have HB2:=am (below_step HB1.out hb2);clear hb2)
   | ((with_reducible refine gate_dst (N:=19) rfl ?_);refine Kd.R_lit Kd.string w.heap.size 9 ?hg (N:=19) ?hd (xs:=[t]) (inner:=[.string t]) (ok:=fun _=>True) (okp:=fun _=>True) ?hr ?hp (fun _ hk=>hk) trivial HB2.out HB2.out.size (by simp) ?_;(case hd=>rfl);(case hg=>rfl);(case hr=>first | (go_simp;done) | (go_simp;rfl));(case hp=>exact (Reps.one (show Kd.M Kd.string _ _ _ t [.string t] from rfl) (Reps.none _ _)));intro v19 w3 ho3 hb3 hg3 hn3;obtain ⟨A19,c19,rfl⟩:=Kd.R_slice ho3;have HO19:=am ho3;have HB3:=am hb3;have X3:=am (blk_grown X2.out hg3 (by simp));clear ho3 hb3 hg3 hn3)
   | ((with_reducible refine gate_dst (N:=20) rfl ?_);refine Kd.R_lit (Kd.int .i64) w.heap.size 3 ?hg (N:=20) ?hd (xs:=[(0:Int)]) (inner:=[.int .i64 0]) (ok:=fun _=>True) (okp:=fun _=>True) ?hr ?hp (fun _ hk=>hk) trivial HB3.out HB3.out.size (by simp) ?_;(case hd=>rfl);(case hg=>rfl);(case hr=>first | (go_simp;done) | (go_simp;rfl));(case hp=>exact (Reps.one (show Kd.M (Kd.int .i64) _ _ _ (0:Int) [.int .i64 0] from rfl) (Reps.none _ _)));intro v20 w4 ho4 hb4 hg4 hn4;obtain ⟨A20,c20,rfl⟩:=Kd.R_slice ho4;have HO19b:=am (Kd.R_grown HO19.out hg4 (fun _ _=>by simp));have HO20:=am ho4;have HB4:=am hb4;have X4:=am (blk_grown X3.out hg4 (by simp));clear ho4 hb4 hg4 hn4)
   | ((with_reducible refine gate_dst (N:=21) rfl ?_);refine Kd.R_lit Kd.string w.heap.size 9 ?hg (N:=21) ?hd (xs:=[(ByteArray.mk #[])]) (inner:=[.string (ByteArray.mk #[])]) (ok:=fun k=>w4.heap.size ≤ k) (okp:=fun k=>w4.heap.size ≤ k) ?hr ?hp (fun _ hk=>hk) (Nat.le_refl _) HB4.out HB4.out.size (by simp) ?_;(case hd=>rfl);(case hg=>rfl);(case hr=>first | (go_simp;done) | (go_simp;rfl));(case hp=>exact (Reps.one (show Kd.M Kd.string _ _ _ (ByteArray.mk #[]) [.string (ByteArray.mk #[])] from rfl) (Reps.none _ _)));intro v21 w5 ho5 hb5 hg5 hn5;obtain ⟨A21,c21,rfl⟩:=Kd.R_slice ho5;have HO19c:=am (Kd.R_grown (Kd.R_mono (Kd.R_bound HO19b.out) (ok':=fun k=>k < w4.heap.size) (fun k hk=>hk.2.2.1)) hg5 (fun _ _=>by simp));have HO20c:=am (Kd.R_grown HO20.out hg5 (fun _ _=>by simp));have HO21:=am ho5;have HB5:=am hb5;have X5:=am (blk_grown X4.out hg5 (by simp));clear ho5 hb5 hg5 hn5)
   | ((with_reducible refine gate_insert rfl ?_);refine wpList_insert_own _ rfl _ _ _ 124 rfl 9 3 str_keys Tryz.underlying124 _ w5.heap.size 0 _ ?hm (World.ownsMap_made _ _ _ _) zero_lt_max (.string t) (.int .i64 0) (.string t.data.toList) ?hx ?hv HKEY.out (.lit (.int .i64 0)) [] elem0 ?_;(case hm=>rfl);(case hx=>rfl);(case hv=>rfl);intro w7 hown7 hgrow7;obtain ⟨b5,hb5⟩:∃ b5,w5.heap.size = b5:=⟨_,rfl⟩;rw [hb5] at hown7 hgrow7;have HSZ5:=am hb5;have HM7:=am hown7;have HG7:=am (show Below w5.heap.size w5 w7 from ((below_alloc (Below.refl w5.heap.size w5) _).grown hgrow7 (by simp) (fun k hk=>by injection hk with hk;omega)));(try simp only [hb5]);clear hown7 hgrow7 hb5)
   | (refine bx 4 #[.slice none 0 0,.slice none 0 0,.slice none 0 0,.slice none 0 0] 59 ?_;intro b4 hg4 w8 hbox8 hb8;have X8:=am hbox8;have y0:w8.cell? ⟨b4,0,none⟩ = some (.slice none 0 0):=(blk_cell X8.out 0).trans rfl;have y1:w8.cell? ⟨b4,1,none⟩ = some (.slice none 0 0):=(blk_cell X8.out 1).trans rfl;have y2:w8.cell? ⟨b4,2,none⟩ = some (.slice none 0 0):=(blk_cell X8.out 2).trans rfl;have y3:w8.cell? ⟨b4,3,none⟩ = some (.slice none 0 0):=(blk_cell X8.out 3).trans rfl;have f0:=blk_frozen X8.out 0;have f1:=blk_frozen X8.out 1;have f2:=blk_frozen X8.out 2;have f3:=blk_frozen X8.out 3;have G4:=am hg4;have HB8:=am hb8;clear hg4 hbox8 hb8))
  have hB57:Below w.heap.size w w7:=below_step HB5.out HG7.out
  have hB8:Below w.heap.size w w8:=below_step hB57 HB8.out
  have h4w:w.heap.size ≤ b4:=by rw [G4.out];exact hB57.size
  have h5w:w.heap.size ≤ b5:=by rw [← HSZ5.out];exact HB5.out.size
  have h45:b5 ≠ b4:=by have:=HM7.out.lt;rw [G4.out];omega
  obtain ⟨w9,hw9⟩:∃ w9,set4 w8 b4 (.slice A19 1 c19) (.slice A20 1 c20) (.slice none 0 0) (.slice A21 1 c21) = w9:=⟨_,rfl⟩
  have hkp:∀ k,k < w5.heap.size → w9.heap[k]? = w5.heap[k]?:=fun k hk=>by
   have:=HG7.out.size
   rw [← hw9,heap_set4 _ _ _ _ _ _ (by rw [G4.out];omega),HB8.out.block k o_m,HG7.out.block k hk]
  have hA0:RchAt w w9 gw gh cs (RS.start cs) b4 b5 (.slice A19 1 c19) (.slice A20 1 c20) (.slice none 0 0) (.slice A21 1 c21):=by
   have et:=HT.out
   refine ⟨RS.Ok.start HV.out,?_,h4w,h5w,?_,⟨1,Nat.le_refl _,?_⟩,?_,?_,?_,?_⟩
   ·rw [← hw9];exact below_set4 hB8 h4w _ _ _ _
   ·rw [← hw9];exact blk_set4 X8.out _ _ _ _
   ·refine mapK_heap (w:=w7) ?_ ?_
    ·rw [show rT gw gh (RS.start cs) = [t] from by rw [← et];rfl,placesD_one];exact HM7.out
    ·rw [← hw9,heap_set4 _ _ _ _ _ _ h45,HB8.out.block _ HM7.out.lt]
   ·rw [show rT gw gh (RS.start cs) = [t] from by rw [← et];rfl]
    refine Kd.R_mono (Kd.R_step HO19c.out (fun k _ hk=>hkp k hk)) (fun k hk e=>?_)
    have:=HO21.out.1 k e.symm
    omega
   ·exact Kd.R_step HO20c.out (fun k _ hk=>hkp k hk)
   ·exact Kd.S_nil _ _ _ _ _
   ·refine Kd.R_mono (Kd.R_step HO21.out (fun k _ hk=>hkp k hk)) (fun k hk e=>?_)
    have:=HO19c.out.1 k e.symm
    omega
  have hX2:w9.heap[b2]? = some (.cells #[.slice none 0 0,.slice none 0 0,.slice none 0 0,.slice none 0 0] 59 (0,0)):=(hkp b2 (blk_lt X5.out)).trans X5.out
  have h24:b2 ≠ b4:=by have:=blk_lt X5.out;have:=HG7.out.size;rw [G4.out];omega
  have HA0:=am hA0
  have HX20:=am hX2
  have H2W:=am (show w.heap.size ≤ b2 from G2.out)
  have H24:=am h24
  unfold set4 at hw9
  rw [hw9]
  obtain ⟨R,hR⟩:∃ R,bfsD gw gh 301 0 (RS.start cs) = R:=⟨_,rfl⟩
  have HR0:=am hR
  clear hR hw9 hkp hA0 hX2 h24 h45 h5w h4w hB8 hB57 y0 y1 y2 y3 f0 f1 f2 f3 HB8 G4 X8 HG7 HM7 HSZ5 X5 HB5 HO21 HO20c HO19c X4 HB4 HO20 HO19b X3 HB3 HO19 HB2 X2 HB1 X1 HKEY HIS HB
  go_loopw [6] (fun va6 wr=>∃ (f k:Nat) (s:RS) (v0 v1 v2 v3:Value),va6 = .int .i64 k ∧ s.N.length = k ∧ k ≤ s.T.length ∧ f + k = 301 ∧ Aside0 (bfsD gw gh f k s = R) ∧ Aside0 (∀ l ∈ s.N,l.length = 4 ∧ ∀ k ∈ l,k < s.T.length) ∧ Aside0 (wr.heap[b2]? = some (.cells #[.slice none 0 0,.slice none 0 0,.slice none 0 0,.slice none 0 0] 59 (0,0))) ∧ Aside0 (RchAt w wr gw gh cs s b4 b5 v0 v1 v2 v3)) (fun va6 _=>301 - (intOf va6).toNat)
  case atStart=>exact ⟨301,0,_,_,_,_,_,rfl,rfl,Nat.zero_le _,rfl,HR0,⟨fun l hl=>by cases hl⟩,HX20,HA0⟩
  case round =>
   obtain ⟨f,k,s,v0,v1,v2,v3,rfl,hk,hkT,hfk,HF,HNX,HX2,HA⟩:=hrel
   obtain ⟨g0,c0,hv0,hc0,hg0,hg0l,-,hcell0⟩:=R_cells HA.out.r0 (by rw [rT_len];exact HA.out.ok.pos)
   rw [rT_len] at hv0 hc0
   subst hv0
   obtain ⟨g1,c1,hv1,hc1,hg1,hg1l,-,hcell1⟩:=R_cells HA.out.r1 (by rw [castsI_length,HA.out.ok.lF];exact HA.out.ok.pos)
   rw [castsI_length,HA.out.ok.lF] at hv1 hc1
   subst hv1
   obtain ⟨A2,c2,hv2⟩:=Kd.S_slice HA.out.r2
   rw [List.length_map,hk] at hv2
   subst hv2
   obtain ⟨g3,c3,hv3,hc3,hg3,hg3l,-,hcell3⟩:=R_cells HA.out.r3 (by rw [rW_len,HA.out.ok.lW];exact HA.out.ok.pos)
   rw [rW_len,HA.out.ok.lW] at hv3 hc3
   subst hv3
   have hblk:=HA.out.blk
   have z0:wr.cell? ⟨b4,0,none⟩ = some (.slice (some ⟨g0,0,none⟩) s.T.length c0):=(blk_cell hblk 0).trans rfl
   by_cases hlt:k < s.T.length
   rotate_left
   ·have hge:¬ (k:Int) < (s.T.length:Int):=by omega
    obtain ⟨f',rfl⟩:∃ f',f = f' + 1:=⟨f - 1,by have:=HA.out.ok.most;omega⟩
    have hF:=HF.out
    unfold bfsD at hF
    rw [if_neg hlt] at hF
    have HSR:=am (show srch t = some (gw,gh,s) by rw [HS.out,show reachD gw gh cs = some s from HR0.out.trans hF.symm];rfl)
    have h:=HH.out
    rw [HSR.out] at h
    simp only [Option.some.injEq,Prod.mk.injEq] at h
    obtain ⟨rfl,rfl,rfl,rfl,rfl⟩:=h
    have z1:wr.cell? ⟨b4,1,none⟩ = some (.slice (some ⟨g1,0,none⟩) s.T.length c1):=(blk_cell hblk 1).trans rfl
    have z2:wr.cell? ⟨b4,2,none⟩ = some (.slice A2 k c2):=(blk_cell hblk 2).trans rfl
    have z3:wr.cell? ⟨b4,3,none⟩ = some (.slice (some ⟨g3,0,none⟩) s.T.length c3):=(blk_cell hblk 3).trans rfl
    have y0:wr.cell? ⟨b2,0,none⟩ = some (.slice none 0 0):=(blk_cell HX2.out 0).trans rfl
    have y1:wr.cell? ⟨b2,1,none⟩ = some (.slice none 0 0):=(blk_cell HX2.out 1).trans rfl
    have y2:wr.cell? ⟨b2,2,none⟩ = some (.slice none 0 0):=(blk_cell HX2.out 2).trans rfl
    have y3:wr.cell? ⟨b2,3,none⟩ = some (.slice none 0 0):=(blk_cell HX2.out 3).trans rfl
    have f0:=blk_frozen HX2.out 0
    have f1:=blk_frozen HX2.out 1
    have f2:=blk_frozen HX2.out 2
    have f3:=blk_frozen HX2.out 3
    clear hF HF hcell0 hcell1 hcell3 hblk
    go_wp2
    refine bodyPost_ret (results_ct rfl _ _ b2 59 #[.slice (some ⟨g0,0,none⟩) s.T.length c0,.slice (some ⟨g1,0,none⟩) s.T.length c1,.slice A2 k c2,.slice (some ⟨g3,0,none⟩) s.T.length c3] (0,0) _ rfl (blk_set4 HX2.out _ _ _ _) Tryz.underlying59 rfl info59) rfl ?_
    have r0:=Kd.R_mono (Kd.R_step (Kd.R_types HA.out.r0 HX2.out d_c) (fun x hk _=>heap_set4 wr b2 (.slice (some ⟨g0,0,none⟩) s.T.length c0) (.slice (some ⟨g1,0,none⟩) s.T.length c1) (.slice A2 k c2) (.slice (some ⟨g3,0,none⟩) s.T.length c3) hk.2)) (fun _ hk=>hk.1)
    have r1:=Kd.R_mono (Kd.R_step (Kd.R_types HA.out.r1 HX2.out d_c) (fun x hk _=>heap_set4 wr b2 (.slice (some ⟨g0,0,none⟩) s.T.length c0) (.slice (some ⟨g1,0,none⟩) s.T.length c1) (.slice A2 k c2) (.slice (some ⟨g3,0,none⟩) s.T.length c3) hk.2)) (fun _ hk=>hk.1)
    have r2:=Kd.S_mono (Kd.S_step (Kd.S_types HA.out.r2 HX2.out d_c) (fun x hk _=>heap_set4 wr b2 (.slice (some ⟨g0,0,none⟩) s.T.length c0) (.slice (some ⟨g1,0,none⟩) s.T.length c1) (.slice A2 k c2) (.slice (some ⟨g3,0,none⟩) s.T.length c3) hk.2)) (fun _ hk=>hk.1)
    have r3:=Kd.R_mono (Kd.R_step (Kd.R_types HA.out.r3 HX2.out d_c) (fun x hk _=>heap_set4 wr b2 (.slice (some ⟨g0,0,none⟩) s.T.length c0) (.slice (some ⟨g1,0,none⟩) s.T.length c1) (.slice A2 k c2) (.slice (some ⟨g3,0,none⟩) s.T.length c3) hk.2)) (fun _ hk=>hk.1)
    exact ⟨_,_,_,_,rfl,r0,r1,r2,r3,below_set4 HA.out.bel H2W.out _ _ _ _⟩
   have hltI:(k:Int) < (s.T.length:Int):=by omega
   obtain ⟨f',rfl⟩:∃ f',f = f' + 1:=⟨f - 1,by have:=HA.out.ok.most;omega⟩
   have hF:=HF.out
   unfold bfsD at hF
   rw [if_pos hlt] at hF
   obtain ⟨cc,hcc⟩:∃ cc,s.T.getD k [] = cc:=⟨_,rfl⟩
   have vcc:Vg (gw,gh,cc):=by rw [← hcc];exact HA.out.ok.tray _ (getD_mem hlt)
   have hgt:=grid_textB vcc
   obtain ⟨tx,htx⟩:∃ tx,textB (gw,gh,cc) = tx:=⟨_,rfl⟩
   rw [htx] at hgt
   have zt:wr.cell? ⟨g0,k,none⟩ = some (.string tx):=hcell0 k _ (by unfold rT;rw [List.getElem?_map,List.getElem?_eq_getElem hlt,← htx,← hcc,getD_lt hlt];rfl)
   have HRD:=am (show impl_readS.f tx = some ((gw:Int),(gh:Int),cc) from impl_read_eq tx hgt)
   have HF2:=am hF
   have HCC:=am hcc
   have HVC:=am vcc
   have HFK:=am hfk
   have HKT:=am hlt
   have HNK:=am hk
   have hln:=vcc.len
   have hl0:0 < cc.length:=by rw [hln];exact Nat.mul_pos vcc.w1 vcc.h1
   have HL0:=am hl0
   clear hF HF hcc vcc hgt htx hcell0 hcell1 hcell3 hblk hfk hlt hkT hk hln hl0 hc0 hc1 hc3 hg0 hg0l hg1 hg1l hg3 hg3l
   go_wp2_with (first
    | (go_at_call 51;refine (impl_readS.calls tx _ _ _ _ HRD.out).mono ?_;rintro e w1 ⟨v1',rfl,ho1,hb1⟩;obtain ⟨bo,co,rfl,hbo,hbol,cb,mb,hbc⟩:=Kx.R_form ho1 HL0.out;have HOT:=am ho1;have HBO:=am (And.intro hbo hbol);have HBC:=am hbc;have HB1:=am hb1;clear ho1 hb1 hbo hbol hbc z0 zt)
    | ((with_reducible refine gate_dst (N:=39) rfl ?_);refine Kd.R_lit (Kd.int .i64) w1.heap.size 3 ?hg (N:=39) ?hd (xs:=([]:List Int)) (inner:=[]) (ok:=fun k=>w1.heap.size ≤ k) (okp:=fun k=>w1.heap.size ≤ k) ?hr ?hp (fun _ hk=>hk) (Nat.le_refl _) (Below.refl _ _) (Nat.le_refl _) (by simp) ?_;(case hd=>rfl);(case hg=>rfl);(case hr=>first | (go_simp;done) | (go_simp;rfl));(case hp=>exact Reps.none _ _);intro v39 w2 ho2 hb2 hg2 hn2;obtain ⟨A39,c39,rfl⟩:=Kd.R_slice ho2;have HO39:=am ho2;have HB2:=am hb2;clear ho2 hb2 hg2 hn2)
    | (refine bx 7 #[.int .i64 0,.int .i64 0,.slice none 0 0] 65 ?_;intro b7 hg7 w3 hbox3 hb3;have X3:=am hbox3;have y0:w3.cell? ⟨b7,0,none⟩ = some (.int .i64 0):=(blk_cell X3.out 0).trans rfl;have y1:w3.cell? ⟨b7,1,none⟩ = some (.int .i64 0):=(blk_cell X3.out 1).trans rfl;have y2:w3.cell? ⟨b7,2,none⟩ = some (.slice none 0 0):=(blk_cell X3.out 2).trans rfl;have f0:=blk_frozen X3.out 0;have f1:=blk_frozen X3.out 1;have f2:=blk_frozen X3.out 2;have G7:=am hg7;have HB3:=am hb3;clear hg7 hbox3 hb3)
    | ((with_reducible refine gate_dst (N:=40) rfl ?_);obtain ⟨w4,hw4⟩:∃ w4,(((w3.setCell ⟨b7,0,none⟩ (.int .i64 gw)).setCell ⟨b7,1,none⟩ (.int .i64 gh)).setCell ⟨b7,2,none⟩ (.slice (some ⟨bo,0,none⟩) cc.length co)) = w4:=⟨_,rfl⟩;rw [hw4];have HB4:=am (show Below w2.heap.size w2 w4 by rw [← hw4];exact below_set3 HB3.out (by rw [G7.out];exact Nat.le_refl _) _ _ _);have X4:=am (show w4.heap[b7]? = some (.cells #[.int .i64 gw,.int .i64 gh,.slice (some ⟨bo,0,none⟩) cc.length co] 65 (0,0)) by rw [← hw4];exact blk_set3 X3.out _ _ _);clear hw4 y0 y1 y2 f0 f1 f2 X3;refine Kd.event_run ?hg (v:=.slice (some ⟨w4.heap.size,0,none⟩) 4 4) (w1:=w4.alloc (.cells #[.int .u8 117,.int .u8 114,.int .u8 100,.int .u8 108] 5)) ?hr ?_;(case hg=>rfl);(case hr=>first | (go_simp;done) | (go_simp;rfl));have hcv:=Lib.run_convert_bytes_const (P:=Tryz.prog) w4 63 5 #[.int .u8 117,.int .u8 114,.int .u8 100,.int .u8 108] 4 4 Tryz.underlying63 Tryz.underlying5))
   obtain ⟨gd,hgd⟩:∃ gd,w4.heap.size = gd:=⟨_,rfl⟩
   have hB4:Below wr.heap.size wr w4:=below_step (below_step HB1.out HB2.out) HB4.out
   have hB5:Below wr.heap.size wr (w4.alloc (.cells #[.int .u8 117,.int .u8 114,.int .u8 100,.int .u8 108] 5 (4,5))):=below_alloc hB4 _
   have hD5:(w4.alloc (.cells #[.int .u8 117,.int .u8 114,.int .u8 100,.int .u8 108] 5 (4,5))).heap[gd]? = some (.cells #[.int .u8 117,.int .u8 114,.int .u8 100,.int .u8 108] 5 (4,5)):=by rw [← hgd];exact blk_new _ _
   have hX5:=blk_alloc X4.out (.cells #[.int .u8 117,.int .u8 114,.int .u8 100,.int .u8 108] 5 (4,5))
   have hOT5:=Kx.R_below (Kx.R_below (Kx.R_below HOT.out HB2.out) HB4.out) (below_alloc (Below.refl _ _) (.cells #[.int .u8 117,.int .u8 114,.int .u8 100,.int .u8 108] 5 (4,5)))
   have hO39:=Kd.R_below (Kd.R_below HO39.out HB4.out) (below_alloc (Below.refl _ _) (.cells #[.int .u8 117,.int .u8 114,.int .u8 100,.int .u8 108] 5 (4,5)))
   rw [hgd]
   generalize w4.alloc (.cells #[.int .u8 117,.int .u8 114,.int .u8 100,.int .u8 108] 5 (4,5)) = w5 at *
   have hA5:=HA.out.below hB5
   obtain ⟨KS,hKS⟩:∃ KS:Nat → Prop,(fun x=>x = b2 ∨ x = b7 ∨ x = bo ∨ x = gd) = KS:=⟨_,rfl⟩
   have hs1:=HB1.out.size
   have hs2:=HB2.out.size
   have hs4:=HB4.out.size
   have hK5:OthAt w5 w5 KS b4 b5 (.slice (some ⟨g0,0,none⟩) s.T.length c0) (.slice (some ⟨g1,0,none⟩) s.T.length c1) (.slice (some ⟨g3,0,none⟩) s.T.length c3) (.slice A39 0 c39):=by
    have hb2l:=blk_lt HX2.out
    have hb2x:=blk_below HX2.out hB5
    have hg7:=G7.out
    have hbol:=HBO.out
    have h39:=fun k hk=>hO39.1 k hk
    have l0:=own_lt HA.out.r0
    have l1:=own_lt HA.out.r1
    have l3:=own_lt HA.out.r3
    have hb4l:=blk_lt HA.out.blk
    obtain ⟨n,_,hm⟩:=HA.out.map
    have hb5l:=hm.lt
    refine ⟨fun k _=>rfl,fun x hx=>?_,fun x hx=>?_⟩
    ·rw [← hKS] at hx
     rcases hx with rfl | rfl | rfl | rfl
     ·exact blk_lt hb2x
     ·exact blk_lt hX5
     ·exact (Kx.R_form hOT5 HL0.out).elim fun g h=>h.elim fun c h=>by
       obtain ⟨e,_,h3,_⟩:=h
       injection e with e
       injection e with e
       injection e with e
       rw [e];exact h3
     ·exact blk_lt hD5
    ·have hx39:∀ y:Nat,(y = b2 ∨ y = b7 ∨ y = bo ∨ y = gd) → some y ≠ (Value.slice A39 0 c39).ownBlock:=fun y hy e=>by
      have h1:=hO39.1 y e.symm
      have h2:=(own_lt HO39.out) y e.symm
      omega
     rw [← hKS] at hx
     have hy:=hx39 x hx
     rcases hx with rfl | hx
     ·exact ⟨own_type rfl HA.out.r0 HX2.out d_c,own_type rfl HA.out.r1 HX2.out d_c,own_type rfl HA.out.r3 HX2.out d_c,hy,H24.out,(mapK_ne hm HX2.out).symm⟩
     ·have hxl:wr.heap.size ≤ x:=by omega
      exact ⟨fun e=>by have:=l0 x e.symm;omega,fun e=>by have:=l1 x e.symm;omega,fun e=>by have:=l3 x e.symm;omega,hy,by omega,by omega⟩
   have h82:Kd.S (Kd.slice 3 (Kd.int .i64)) 40 w5 w.heap.size (fun k=>some k ≠ (Value.slice (some ⟨g1,0,none⟩) s.T.length c1).ownBlock ∧ some k ≠ (Value.slice A39 0 c39).ownBlock) (.slice A2 k c2) (s.N.map castsI):=by
    refine Kd.S_mono (Kd.S_below (Kd.S_bound HA.out.r2) hB5) (fun x hx=>⟨hx.1,fun e=>?_⟩)
    have:=hO39.1 x e.symm
    have:=hx.2.2.1
    omega
   have h81:Kd.R (Kd.int .i64) 3 w5 w.heap.size (fun k=>some k ≠ (Value.slice (some ⟨g1,0,none⟩) s.T.length c1).ownBlock) (.slice A39 0 c39) (castsI []):=by
    refine Kd.R_mono (Kd.R_lower hO39 (by have:=HA.out.bel.size;omega)) (fun x hx e=>?_)
    have:=own_lt HA.out.r1 x e.symm
    omega
   have HA5:=am hA5
   have HK5:=am hK5
   have HX5:=am hX5
   have HX25:=am (blk_below HX2.out hB5)
   have HD5:=am hD5
   have HOT5:=am hOT5
   have H81:=am h81
   have H82:=am h82
   have HKS:=am hKS
   clear hcv hB4 hB5 hA5 hK5 hX5 hD5 hOT5 hO39 h81 h82 hs1 hs2 hs4 HB1 HB2 HB4 HB3 G7 X4 HO39 HOT HBO HBC hKS hgd
   go_loopw [8,43] (fun va8 va43 wq=>∃ (d:Nat) (s':RS) (P:List Nat) (v0 v1 v2 v3:Value),d ≤ 4 ∧ va43 = .int .i64 d ∧ P.length = d ∧ Aside0 (seeAll gw gh k ([0,1,2,3].drop d) s' P = seeAll gw gh k [0,1,2,3] s []) ∧ Aside0 (s'.N = s.N ∧ k < s'.T.length ∧ s.T.length ≤ s'.T.length ∧ s'.T.getD k [] = cc ∧ (∀ x ∈ P,x < s'.T.length)) ∧ Aside0 (Kd.R (Kd.int .i64) 3 wq w.heap.size (fun k=>some k ≠ v1.ownBlock) va8 (castsI P)) ∧ Aside0 (Kd.S (Kd.slice 3 (Kd.int .i64)) 40 wq w.heap.size (fun k=>some k ≠ v1.ownBlock ∧ some k ≠ va8.ownBlock) v2 (s'.N.map castsI)) ∧ Aside0 (OthAt w5 wq KS b4 b5 v0 v1 v3 va8) ∧ Aside0 (RchAt w wq gw gh cs s' b4 b5 v0 v1 v2 v3)) (fun _ va43 _=>4 - (intOf va43).toNat)
   case atStart=>exact ⟨0,s,[],_,_,_,_,by omega,rfl,rfl,⟨rfl⟩,⟨rfl,HKT.out,Nat.le_refl _,HCC.out,fun x hx=>by cases hx⟩,H81,H82,HK5,HA5⟩
   case round =>
    obtain ⟨d,s',P,v0,v1,v2,v3,hd,rfl,hPl,HSB,HS',H8,H2,HK,HA'⟩:=hrel
    by_cases hd4:d < 4
    rotate_left
    ·have hge:¬ (d:Int) < 4:=by omega
     obtain rfl:d = 4:=by omega
     have hsb:=HSB.out
     rw [show ([0,1,2,3]:List Nat).drop 4 = [] from rfl] at hsb
     have hF2:=HF2.out
     rw [← hsb] at hF2
     have HF3:=am (show bfsD gw gh f' (k + 1) { s' with N:=s'.N ++ [P] } = R from hF2)
     have hw1:IntKind.i64.wrap ((k:Int) + 1) = ((k + 1:Nat):Int):=by rw [IntKind.wrap_i64];have:=HFK.out;omega
     have HPL:=am hPl
     obtain ⟨A8,c8,hv8⟩:=Kd.R_slice H8.out
     rw [castsI_length,hPl] at hv8
     subst hv8
     have z2:wr.cell? ⟨b4,2,none⟩ = some v2:=(blk_cell HA'.out.blk 2).trans rfl
     have hokp:∀ x,some x = (Value.slice A8 4 c8).ownBlock → some x ≠ v1.ownBlock ∧ some x ≠ v2.ownBlock:=fun x hx=>⟨H8.out.1 x hx.symm,by
      obtain ⟨_,_,_,q,hq,cells,hc⟩:=(Kd.R_bound H8.out).1 x hx.symm
      obtain rfl:q = 3:=List.mem_singleton.1 hq
      exact Kd.S_ne HA'.out.r2 hc d_c⟩
     have HOKP:=am hokp
     clear hsb hF2 hPl hokp
     go_wp2_with (first
      | ((with_reducible refine gate_builtin (b:=.append) (xs:=#[.tmp 105,.tmp 107]) rfl ?_);at_builtin;refine Kd.S_append (Kd.slice 3 (Kd.int .i64)) (w0:=w) w.heap.size rfl (.tmp 105) (.tmp 107) 57 40 (.slice none 0 0) 24 rfl Tryz.underlying57 info40 rfl d_c o_m v2 (s'.N.map castsI) (castsI P) [.slice A8 4 c8] (fun x=>some x ≠ v1.ownBlock) (fun x=>some x = (Value.slice A8 4 c8).ownBlock) rfl rfl ?aP HOKP.out ?aF ?aO ?aB ?aS ?aL ?_;(case aP=>exact Kd.M_row (Kd.R_tight rfl H8.out |> fun h=>Kd.R_mono h (fun _ h_=>h_)));(case aB=>exact HA'.out.bel);(case aF=>exact (fun x hx e=>by have:=own_lt HA'.out.r1 x e.symm;omega));(case aO=>exact Kd.S_mono H2.out (fun x hx=>⟨hx.1,fun e=>hx.2 e⟩));(case aS=>exact HA'.out.bel.size);(case aL=>rw [List.length_map,HS'.out.1,HNK.out];have:=HFK.out;omega);intro v7 w7 ho7 hb7 hg7 hat7;obtain ⟨A7,c7,hv7⟩:=Kd.S_slice ho7;obtain ⟨n7,hn7⟩:∃ n7,(s'.N.map castsI ++ [castsI P]).length = n7:=⟨_,rfl⟩;rw [hn7] at hv7;subst hv7;clear hn7;have hbk7:=blk_grown HA'.out.blk hg7 (Kd.S_ne HA'.out.r2 HA'.out.blk d_c);have x2:w7.cell? ⟨b4,2,none⟩ = some v2:=(blk_cell hbk7 2).trans rfl;have fx2:=blk_frozen hbk7 2;have HO7':=am ho7;have HB7:=am hb7;have HG7:=am hg7;have HBK7:=am hbk7;clear ho7 hb7 hg7 hat7 hbk7 z2))
     go_roundw
     case rel =>
      have hp:=HA'.out.push HO7'.out HB7.out HG7.out
      have hb2n:some b2 ≠ v2.ownBlock:=Kd.S_ne HA'.out.r2 ((HK.out.keep b2 (by rw [← HKS.out];exact .inl rfl)).trans HX25.out) d_c
      refine ⟨f',k + 1,{ s' with N:=s'.N ++ [P] },v0,v1,_,v3,by first | rfl | simp,?_,HS'.out.2.1,by have:=HFK.out;omega,HF3,⟨fun l hl=>?_⟩,⟨?_⟩,⟨hp⟩⟩
      ·show (s'.N ++ [P]).length = k + 1
       rw [List.length_append,HS'.out.1,HNK.out];rfl
      ·rcases List.mem_append.1 (show l ∈ s'.N ++ [P] from hl) with hl | hl
       ·rw [HS'.out.1] at hl
        obtain ⟨h1,h2⟩:=HNX.out l hl
        exact ⟨h1,fun x hx=>Nat.lt_of_lt_of_le (h2 x hx) HS'.out.2.2.1⟩
       ·rw [List.mem_singleton.1 hl];exact ⟨HPL.out,HS'.out.2.2.2.2⟩
      ·rw [Below.heap_setCell _ _ _ _ H24.out]
       have hk2:KS b2:=by rw [← HKS.out];exact .inl rfl
       exact (HG7.out.block b2 (HK.out.lt b2 hk2) hb2n).trans ((HK.out.keep b2 hk2).trans HX25.out)
     case measure=>have:=HFK.out;simp [intOf];omega
    have hltI2:(d:Int) < 4:=by omega
    have hX7:wr.heap[b7]? = some (.cells #[.int .i64 gw,.int .i64 gh,.slice (some ⟨bo,0,none⟩) cc.length co] 65 (0,0)):=(HK.out.keep b7 (by rw [← HKS.out];exact .inr (.inl rfl))).trans HX5.out
    have hD7:wr.heap[gd]? = some (.cells #[.int .u8 117,.int .u8 114,.int .u8 100,.int .u8 108] 5 (4,5)):=(HK.out.keep gd (by rw [← HKS.out];exact .inr (.inr (.inr rfl)))).trans HD5.out
    have hO7:=Kd.V_reads' (Kx.R_V (base':=0) (Kx.R_move HOT5.out (w1:=wr) (fun x hx _=>by
     injection hx with hx
     subst hx
     exact HK.out.keep bo (by rw [← HKS.out];exact .inr (.inr (.inl rfl))))))
    have z0:wr.cell? ⟨b7,0,none⟩ = some (.int .i64 gw):=(blk_cell hX7 0).trans rfl
    have z1:wr.cell? ⟨b7,1,none⟩ = some (.int .i64 gh):=(blk_cell hX7 1).trans rfl
    have z2:wr.cell? ⟨b7,2,none⟩ = some (.slice (some ⟨bo,0,none⟩) cc.length co):=(blk_cell hX7 2).trans rfl
    have zd:wr.cell? ⟨gd,d,none⟩ = some (.int .u8 (dirB d)):=(cell_of_row wr gd d _ _ _ hD7).trans (show (#[.int .u8 117,.int .u8 114,.int .u8 100,.int .u8 108]:Array Value)[d]? = some (.int .u8 (dirB d)) from by rcases (by omega:d = 0 ∨ d = 1 ∨ d = 2 ∨ d = 3) with rfl | rfl | rfl | rfl <;> rfl)
    obtain ⟨c1',hc1⟩:∃ c1',tiltD gw gh d cc = c1':=⟨_,rfl⟩
    have vc1:Vg (gw,gh,c1'):=by rw [← hc1];exact tiltG_V HVC.out hd4
    have htl:=impl_tilted_eq (w:=gw) (h:=gh) (cs:=cc) (c:=dirB d) ⟨HVC.out.w1,HVC.out.w7⟩ ⟨HVC.out.h1,HVC.out.h7⟩ HVC.out.len (dir_ix hd4).1
    rw [(dir_ix hd4).2,hc1] at htl
    obtain ⟨tx1,htx1⟩:∃ tx1,textB (gw,gh,c1') = tx1:=⟨_,rfl⟩
    have htt:impl_tray_text.f (gw:Int) (gh:Int) c1' = some tx1:=by rw [← htx1];exact impl_text_eq vc1
    have hkey:keyOf Tryz.prog 9 (.string tx1) = some (.string tx1.data.toList):=WideMaps.keyOf_string_mk Tryz.underlying9 (by rw [← htx1];have:=textB_small vc1;unfold maxLen;omega)
    have hmem:=rT_mem HA'.out.ok vc1
    rw [htx1] at hmem
    have hhas:=has_places (rT gw gh s') tx1
    obtain ⟨bm,hbm⟩:∃ bm,Maps.has (placesD (rT gw gh s')) (litS tx1) = bm:=⟨_,rfl⟩
    have HHAS:=am hbm
    have HBM:=am (show bm = true ↔ findT s'.T c1' < s'.T.length by rw [← hbm,hhas,hmem])
    have HTL:=am htl
    have HTT:=am htt
    have HTX1:=am htx1
    have HC1:=am hc1
    have HV1:=am vc1
    have HKEY:=am hkey
    have HO7:=am hO7
    have HD4:=am hd4
    have HPL:=am hPl
    obtain ⟨A8,c8,hv8⟩:=Kd.R_slice H8.out
    rw [castsI_length,hPl] at hv8
    subst hv8
    clear hX7 hD7 hO7 hc1 vc1 htl htx1 htt hkey hmem hhas hbm hd4 hd hPl
    cases bm with
    | true =>
     have hf:=HBM.out.1 rfl
     have hatp:∀ z,(placesD (rT gw gh s')).atKey (litS tx1) z = .lit (litN (findT s'.T c1')):=fun z=>by
      have hi:findT s'.T c1' < (rT gw gh s').length:=by rw [rT_len];exact hf
      have:=at_places (rT_nodup HA'.out.ok) hi z
      rw [show (rT gw gh s')[findT s'.T c1']'hi = tx1 from by rw [← HTX1.out];exact rT_at hf hi] at this
      exact this
     have HSS:=am (show seeAll gw gh k ([0,1,2,3].drop (d + 1)) s' (P ++ [findT s'.T c1']) = seeAll gw gh k [0,1,2,3] s [] by
      rw [← HSB.out];exact (seeS_found HD4.out (by rw [HS'.out.2.2.2.1];exact HC1.out) hf).symm)
     have HAL:=am hf
     have HATP:=am hatp
     generalize findT s'.T c1' = fa at *
     have hw1:IntKind.i64.wrap ((d:Int) + 1) = ((d + 1:Nat):Int):=by rw [IntKind.wrap_i64];have:=HD4.out;omega
     clear hatp hf
     go_wp2_with (first
      | (go_at_call 103;refine (impl_tray_tilted.calls _ _ _ co cc _ _ _ _ _ HO7.out.2.2 HO7.out.2.1 HTL.out).mono ?_;rintro e w1 ⟨vt,rfl,ho1,hb1⟩;obtain ⟨At,ct,rfl⟩:=Kd.R_slice ho1;have HOT1:=am ho1;have HB1:=am hb1;clear ho1 hb1 z0 z1 z2 zd)
      | (go_at_call 67;refine (impl_tray_text.calls _ _ At ct c1' _ _ (Kd.R_reads' HOT1.out).2.2 (by have h:=(Kd.R_reads' HOT1.out).2.1;exact h) HTT.out).mono ?_;rintro e w2 ⟨rfl,hb2⟩;have hb:=below_step HB1.out hb2;have HA2:=am (HA'.out.below hb);have HK2:=am (HK.out.below hb);have H82:=am (Kd.R_below H8.out hb);have H22:=am (Kd.S_below H2.out hb);have HBB:=am hb;clear hb hb2 HOT1 HB1;obtain ⟨nm,hnm,hmap⟩:=HA2.out.map;have HNM:=am hnm;have HMAP:=am hmap;clear hnm hmap)
      | (at_lookup;refine wpList_lookup_own_ok_int _ rfl _ _ 124 rfl 9 3 .i64 str_keys Tryz.underlying124 Tryz.underlying3 (zero_i _) b5 nm _ ?hm HMAP.out (.string tx1) (.string tx1.data.toList) ?hx HKEY.out ?_;(case hm=>rfl);(case hx=>rfl);rw [show Maps.has (placesD (rT gw gh s')) (Lit.string tx1.data.toList) = true from HHAS.out];intro ci hat hwc;rw [show DataW.atKey (placesD (rT gw gh s')) (Lit.string tx1.data.toList) _ = _ from HATP.out _] at hat;injection hat with hat;injection hat with _ hat;subst hat;clear hwc)
      | ((with_reducible refine gate_builtin (b:=.append) (xs:=#[.tmp 99,.tmp 101]) rfl ?_);at_builtin;refine Kd.R_append (Kd.int .i64) (w0:=w) w.heap.size rfl (.tmp 99) (.tmp 101) 40 3 (.int .i64 0) 8 rfl Tryz.underlying40 info3 rfl d_c o_m (.slice A8 d c8) (castsI P) (fa:Int) [.int .i64 fa] (fun k=>some k ≠ v1.ownBlock) (fun _=>False) rfl rfl ?aP (fun _ hk=>hk.elim) ?aF ?aO ?aB ?aS ?aL ?_;(case aP=>exact rfl);(case aB=>exact HA2.out.bel);(case aF=>exact (fun k hk e=>by have:=own_lt HA2.out.r1 k e.symm;omega));(case aO=>exact H82.out);(case aS=>exact HA2.out.bel.size);(case aL=>rw [castsI_length,HPL.out];have:=HD4.out;omega);intro v7 w7 ho7 hb7 hg7 hat7;have HO7':=am ho7;have HB7:=am hb7;have HG7:=am hg7;have HAT7:=am hat7;clear ho7 hb7 hg7 hat7))
     go_roundw
     case rel =>
      obtain ⟨n1,n2,n3⟩:=RchAt.next HA2.out H82.out H22.out HK2.out HB7.out HG7.out HAT7.out
      refine ⟨d + 1,s',P ++ [fa],_,_,_,_,by have:=HD4.out;omega,by first | rfl | simp,by rw [List.length_append,HPL.out];rfl,HSS,⟨HS'.out.1,HS'.out.2.1,HS'.out.2.2.1,HS'.out.2.2.2.1,fun x hx=>?_⟩,⟨?_⟩,⟨n2⟩,⟨n3⟩,⟨n1⟩⟩
      ·rcases List.mem_append.1 hx with hx | hx
       ·exact HS'.out.2.2.2.2 x hx
       ·rw [List.mem_singleton.1 hx];exact HAL.out
      ·unfold castsI
       rw [List.map_append]
       exact HO7'.out
     case measure=>have:=HD4.out;simp [intOf];omega
    | false =>
     have hf:¬ findT s'.T c1' < s'.T.length:=fun h=>Bool.false_ne_true (HBM.out.2 h)
     by_cases h3:s'.T.length = 300
     ·have HRN:=am (show R = none by
       have h:=HF2.out
       rw [← HSB.out,seeS_full HD4.out (by rw [HS'.out.2.2.2.1];exact HC1.out) hf h3] at h
       exact h.symm)
      have HSR:=am (show srch t = none by rw [HS.out,show reachD gw gh cs = none from HR0.out.trans HRN.out];rfl)
      have h:=HH.out
      rw [HSR.out] at h
      simp only [Option.some.injEq,Prod.mk.injEq] at h
      obtain ⟨rfl,rfl,rfl,rfl,rfl⟩:=h
      have hfe:((s'.T.length:Int) == 300) = true:=by rw [h3];rfl
      obtain ⟨g0',c0',hv0',-,-,-,-,-⟩:=R_cells HA'.out.r0 (by rw [rT_len];exact HA'.out.ok.pos)
      rw [rT_len] at hv0'
      subst hv0'
      clear hf h3
      go_wp2_with (first
       | (go_at_call 103;refine (impl_tray_tilted.calls _ _ _ co cc _ _ _ _ _ HO7.out.2.2 HO7.out.2.1 HTL.out).mono ?_;rintro e w1 ⟨vt,rfl,ho1,hb1⟩;obtain ⟨At,ct,rfl⟩:=Kd.R_slice ho1;have HOT1:=am ho1;have HB1:=am hb1;clear ho1 hb1 z0 z1 z2 zd)
       | (go_at_call 67;refine (impl_tray_text.calls _ _ At ct c1' _ _ (Kd.R_reads' HOT1.out).2.2 (by have h:=(Kd.R_reads' HOT1.out).2.1;exact h) HTT.out).mono ?_;rintro e w2 ⟨rfl,hb2⟩;have hb:=below_step HB1.out hb2;have HA2:=am (HA'.out.below hb);have HK2:=am (HK.out.below hb);have H82:=am (Kd.R_below H8.out hb);have H22:=am (Kd.S_below H2.out hb);have HBB:=am hb;clear hb hb2 HOT1 HB1;obtain ⟨nm,hnm,hmap⟩:=HA2.out.map;have HNM:=am hnm;have HMAP:=am hmap;clear hnm hmap;have x4:w2.cell? ⟨b4,0,none⟩ = some (.slice (some ⟨g0',0,none⟩) s'.T.length c0'):=(blk_cell HA2.out.blk 0).trans rfl;have X2:=am (show w2.heap[b2]? = some (.cells #[.slice none 0 0,.slice none 0 0,.slice none 0 0,.slice none 0 0] 59 (0,0)) from (HK2.out.keep b2 (by rw [← HKS.out];exact .inl rfl)).trans HX25.out);have y0:w2.cell? ⟨b2,0,none⟩ = some (.slice none 0 0):=(blk_cell X2.out 0).trans rfl;have y1:w2.cell? ⟨b2,1,none⟩ = some (.slice none 0 0):=(blk_cell X2.out 1).trans rfl;have y2:w2.cell? ⟨b2,2,none⟩ = some (.slice none 0 0):=(blk_cell X2.out 2).trans rfl;have y3:w2.cell? ⟨b2,3,none⟩ = some (.slice none 0 0):=(blk_cell X2.out 3).trans rfl;have f0:=blk_frozen X2.out 0;have f1:=blk_frozen X2.out 1;have f2:=blk_frozen X2.out 2;have f3:=blk_frozen X2.out 3)
       | (at_lookup;refine wpList_lookup_own_ok_int _ rfl _ _ 124 rfl 9 3 .i64 str_keys Tryz.underlying124 Tryz.underlying3 (zero_i _) b5 nm _ ?hm HMAP.out (.string tx1) (.string tx1.data.toList) ?hx HKEY.out ?_;(case hm=>rfl);(case hx=>rfl);rw [show Maps.has (placesD (rT gw gh s')) (Lit.string tx1.data.toList) = false from HHAS.out];intro ci hat hwc;clear hat hwc))
      refine bodyPost_ret (results_ct rfl _ _ b2 59 #[.slice none 0 0,.slice none 0 0,.slice none 0 0,.slice none 0 0] (0,0) _ rfl (blk_set4 X2.out _ _ _ _) Tryz.underlying59 rfl info59) rfl ?_
      exact ⟨_,_,_,_,rfl,Kd.R_nil _ _ _ _ _,Kd.R_nil _ _ _ _ _,Kd.S_nil _ _ _ _ _,Kd.R_nil _ _ _ _ _,below_set4 HA2.out.bel H2W.out _ _ _ _⟩
     ·have hfe:((s'.T.length:Int) == 300) = false:=beq_eq_false_iff_ne.2 o_m
      have hseeD:=seeD_new (w:=gw) (h:=gh) (k:=k) (d:=d) (by rw [HS'.out.2.2.2.1];exact HC1.out) hf h3
      have HOKP:=am (see_ok HA'.out.ok HS'.out.2.1 HD4.out hseeD).1
      have HSS:=am (show seeAll gw gh k ([0,1,2,3].drop (d + 1)) (pushD s' k d c1') (P ++ [s'.T.length]) = seeAll gw gh k [0,1,2,3] s [] by
       rw [← HSB.out];exact (seeS_new HD4.out (by rw [HS'.out.2.2.2.1];exact HC1.out) hf h3).symm)
      have h300:s'.T.length < 300:=by have:=HA'.out.ok.most;omega
      obtain ⟨gu0,cu0,hv0',-,-,-,-,-⟩:=R_cells HA'.out.r0 (by rw [rT_len];exact HA'.out.ok.pos)
      obtain ⟨gu1,cu1,hv1',-,-,-,-,-⟩:=R_cells HA'.out.r1 (by rw [castsI_length,HA'.out.ok.lF];exact HA'.out.ok.pos)
      obtain ⟨gu3,cu3,hv3',-,-,-,-,-⟩:=R_cells HA'.out.r3 (by rw [rW_len,HA'.out.ok.lW];exact HA'.out.ok.pos)
      rw [rT_len] at hv0'
      rw [castsI_length,HA'.out.ok.lF] at hv1'
      rw [rW_len,HA'.out.ok.lW] at hv3'
      subst hv0' hv1' hv3'
      have hlen_wf:(Lit.int .i64 ((s'.T.length:Nat):Int)).wf = true:=WalkArith.wf_i64 o_m
      have HWF:=am hlen_wf
      have H300:=am h300
      have HF0:=am hf
      clear hf h3 hseeD h300 hlen_wf
      go_wp2_with (first
       | (go_at_call 103;refine (impl_tray_tilted.calls _ _ _ co cc _ _ _ _ _ HO7.out.2.2 HO7.out.2.1 HTL.out).mono ?_;rintro e w1 ⟨vt,rfl,ho1,hb1⟩;obtain ⟨At,ct,rfl⟩:=Kd.R_slice ho1;have HOT1:=am ho1;have HB1:=am hb1;clear ho1 hb1 z0 z1 z2 zd)
       | (go_at_call 67;refine (impl_tray_text.calls _ _ At ct c1' _ _ (Kd.R_reads' HOT1.out).2.2 (by have h:=(Kd.R_reads' HOT1.out).2.1;exact h) HTT.out).mono ?_;rintro e w2 ⟨rfl,hb2⟩;have hb:=below_step HB1.out hb2;have HA2:=am (HA'.out.below hb);have HK2:=am (HK.out.below hb);have H82:=am (Kd.R_below H8.out hb);have H22:=am (Kd.S_below H2.out hb);have HBB:=am hb;clear hb hb2 HOT1 HB1;obtain ⟨nm,hnm,hmap⟩:=HA2.out.map;have HNM:=am hnm;have HMAP:=am hmap;clear hnm hmap;have x4:w2.cell? ⟨b4,0,none⟩ = some (.slice (some ⟨gu0,0,none⟩) s'.T.length cu0):=(blk_cell HA2.out.blk 0).trans rfl)
       | (at_lookup;refine wpList_lookup_own_ok_int _ rfl _ _ 124 rfl 9 3 .i64 str_keys Tryz.underlying124 Tryz.underlying3 (zero_i _) b5 nm _ ?hm HMAP.out (.string tx1) (.string tx1.data.toList) ?hx HKEY.out ?_;(case hm=>rfl);(case hx=>rfl);rw [show Maps.has (placesD (rT gw gh s')) (Lit.string tx1.data.toList) = false from HHAS.out];intro ci hat hwc;clear hat hwc)
       | (at_mapUpdate;refine wpList_mapUpdate_own _ rfl _ _ _ 124 rfl 9 3 str_keys Tryz.underlying124 _ b5 nm _ ?hm HMAP.out ?hn (.string tx1) (.int .i64 ((s'.T.length:Nat):Int)) (.string tx1.data.toList) ?hx ?hv HKEY.out (.lit (.int .i64 ((s'.T.length:Nat):Int))) [] (plainElem_int Tryz.underlying3 HWF.out) ?_;(case hm=>rfl);(case hx=>rfl);(case hv=>rfl);(case hn=>have:=HNM.out;have:=H300.out;unfold maxLen;omega);intro w3 hown3 hgrow3;have HM3:=am hown3;have HG3:=am hgrow3;clear hown3 hgrow3 x4))
      have hs23:=HG3.out.size
      obtain ⟨N0,hN0⟩:∃ N0,w3.heap.size = N0:=⟨_,rfl⟩
      have hB3:Below w.heap.size w w3:=HA2.out.bel.grown HG3.out HA2.out.bel.size (fun x hx=>by injection hx with hx;rw [← hx];exact HA2.out.b5w)
      have h5b4:b5 ≠ b4:=mapK_ne HMAP.out HA2.out.blk
      have hown0:=mapK_own HMAP.out HA2.out.r0
      have hown1:=mapK_own HMAP.out HA2.out.r1
      have hown3:=mapK_own HMAP.out HA2.out.r3
      have lt0:gu0 < N0:=by have:=own_lt HA2.out.r0 gu0 rfl;omega
      have lt1:gu1 < N0:=by have:=own_lt HA2.out.r1 gu1 rfl;omega
      have lt3:gu3 < N0:=by have:=own_lt HA2.out.r3 gu3 rfl;omega
      have lt4:b4 < N0:=by have:=blk_lt HA2.out.blk;omega
      have n50:b5 ≠ gu0:=fun e=>hown0 (congrArg some e)
      have n51:b5 ≠ gu1:=fun e=>hown1 (congrArg some e)
      have n53:b5 ≠ gu3:=fun e=>hown3 (congrArg some e)
      have n40:b4 ≠ gu0:=fun e=>own_type rfl HA2.out.r0 HA2.out.blk d_c (congrArg some e)
      have n41:b4 ≠ gu1:=fun e=>own_type rfl HA2.out.r1 HA2.out.blk d_c (congrArg some e)
      have n43:b4 ≠ gu3:=fun e=>own_type rfl HA2.out.r3 HA2.out.blk d_c (congrArg some e)
      obtain ⟨_,_,_,q0_,hq0_,cel0,hcel0⟩:=(Kd.R_bound HA2.out.r0).1 gu0 rfl
      obtain rfl:q0_ = 9:=List.mem_singleton.1 hq0_
      obtain ⟨_,_,_,q3_,hq3_,cel3,hcel3⟩:=(Kd.R_bound HA2.out.r3).1 gu3 rfl
      obtain rfl:q3_ = 9:=List.mem_singleton.1 hq3_
      have n01:gu0 ≠ gu1:=fun e=>own_type rfl HA2.out.r1 hcel0 d_c (congrArg some e)
      have n31:gu3 ≠ gu1:=fun e=>own_type rfl HA2.out.r1 hcel3 d_c (congrArg some e)
      have n03:gu0 ≠ gu3:=fun e=>HA2.out.r0.1 gu0 rfl (congrArg some e)
      obtain ⟨LT,hLTe⟩:∃ LT,rT gw gh s' = LT:=⟨_,rfl⟩
      obtain ⟨LF,hLFe⟩:∃ LF,castsI s'.F = LF:=⟨_,rfl⟩
      obtain ⟨LW,hLWe⟩:∃ LW,rW s' = LW:=⟨_,rfl⟩
      have hLT:LT.length = s'.T.length:=by rw [← hLTe,rT_len]
      have hLF:LF.length = s'.T.length:=by rw [← hLFe,castsI_length,HA2.out.ok.lF]
      have hLW:LW.length = s'.T.length:=by rw [← hLWe,rW_len,HA2.out.ok.lW]
      obtain ⟨fk,hfk⟩:∃ fk,s'.F.getD k 0 = fk:=⟨_,rfl⟩
      obtain ⟨wk,hwk⟩:∃ wk,txtW (s'.W.getD k []) = wk:=⟨_,rfl⟩
      obtain ⟨sd,hsd_⟩:∃ sd,strOfNums [dirB d] = sd:=⟨_,rfl⟩
      have hFK_:LF[k]? = some ((fk:Nat):Int):=by
       have hkF:k < s'.F.length:=by rw [HA2.out.ok.lF];exact HS'.out.2.1
       rw [← hLFe,← hfk,castsI_getD _ _ hkF,getD_lt hkF]
      have hWK_:LW[k]? = some wk:=by
       have hkW:k < s'.W.length:=by rw [HA2.out.ok.lW];exact HS'.out.2.1
       rw [← hLWe,← hwk];unfold rW;rw [List.getElem?_map,List.getElem?_eq_getElem hkW,getD_lt hkW];rfl
      have hfkl:fk ≤ 300:=by have:=far_le HA2.out.ok HS'.out.2.1;have:=HS'.out.2.1;have:=H300.out;omega
      have hwf:IntKind.i64.wrap (((fk:Nat):Int) + 1) = ((fk + 1:Nat):Int):=by rw [IntKind.wrap_i64];omega
      have hwkl:wk.size + sd.size ≤ 400:=by
       rw [← hwk,← hsd_,txtW_size,HA2.out.ok.far k HS'.out.2.1,strOfNums_len,hfk]
       simp;omega
      have hwks:¬ 9223372036854775807 < wk.size + sd.size:=by omega
      have hklt:(k:Int) < (s'.T.length:Int):=by have:=HS'.out.2.1;omega
      have h4w:=HA2.out.b4w
      have hnm3:=H300.out
      have hpl3:∀ x:Nat,x < w2.heap.size → x ≠ b5 → w3.heap[x]? = w2.heap[x]?:=fun x hx hne=>HG3.out.block x hx (fun e=>hne (Option.some.inj e))
      have BX:=am (show w3.drew.heap[b4]? = some (.cells #[.slice (some ⟨gu0,0,none⟩) s'.T.length cu0,.slice (some ⟨gu1,0,none⟩) s'.T.length cu1,v2,.slice (some ⟨gu3,0,none⟩) s'.T.length cu3] 59 (0,0)) from (hpl3 b4 (blk_lt HA2.out.blk) h5b4.symm).trans HA2.out.blk)
      have E0:=am (show (.slice (some ⟨gu0,0,none⟩) s'.T.length cu0:Value) = .slice (some ⟨gu0,0,none⟩) s'.T.length cu0 from rfl)
      have E1:=am (show (.slice (some ⟨gu1,0,none⟩) s'.T.length cu1:Value) = .slice (some ⟨gu1,0,none⟩) s'.T.length cu1 from rfl)
      have E3:=am (show (.slice (some ⟨gu3,0,none⟩) s'.T.length cu3:Value) = .slice (some ⟨gu3,0,none⟩) s'.T.length cu3 from rfl)
      have BL:=am (show Below w.heap.size w w3.drew from below_drew1 hB3)
      have SZ:=am (show N0 ≤ w3.drew.heap.size from Nat.le_of_eq hN0.symm)
      have KP:=am (show ∀ k_:Nat,k_ < N0 → k_ ≠ gu0 → k_ ≠ gu1 → k_ ≠ gu3 → k_ ≠ b4 → w3.drew.heap[k_]? = w3.drew.heap[k_]? from fun _ _ _ _ _ _=>rfl)
      have R0:=am (show Kd.R Kd.string 9 w3.drew w.heap.size (fun k_=>k_ = gu0) (.slice (some ⟨gu0,0,none⟩) s'.T.length cu0) LT from hLTe ▸ Kd.R_drew (Kd.R_mono (Kd.R_step (Kd.R_tight rfl HA2.out.r0) (fun x hx hlt=>hpl3 x hlt (fun e=>n50 (e.symm.trans (Option.some.inj hx))))) (fun x hx=>Option.some.inj hx)))
      have R1:=am (show Kd.R (Kd.int .i64) 3 w3.drew w.heap.size (fun k_=>k_ = gu1) (.slice (some ⟨gu1,0,none⟩) s'.T.length cu1) LF from hLFe ▸ Kd.R_drew (Kd.R_mono (Kd.R_step (Kd.R_tight rfl HA2.out.r1) (fun x hx hlt=>hpl3 x hlt (fun e=>n51 (e.symm.trans (Option.some.inj hx))))) (fun x hx=>Option.some.inj hx)))
      have R3:=am (show Kd.R Kd.string 9 w3.drew w.heap.size (fun k_=>k_ = gu3) (.slice (some ⟨gu3,0,none⟩) s'.T.length cu3) LW from hLWe ▸ Kd.R_drew (Kd.R_mono (Kd.R_step (Kd.R_tight rfl HA2.out.r3) (fun x hx hlt=>hpl3 x hlt (fun e=>n53 (e.symm.trans (Option.some.inj hx))))) (fun x hx=>Option.some.inj hx)))
      have HPL3:=am hpl3
      have HMAP3:=am (show w3.drew.heap[b5]? = w3.heap[b5]? from rfl)
      have HKP3:=am (show ∀ x:Nat,w3.drew.heap[x]? = w3.heap[x]? from fun _=>rfl)
      have HFKE:=am hfk
      have HWKE:=am hwk
      have HSDE:=am hsd_
      have HLTE:=am hLTe
      have HLFE:=am hLFe
      have HLWE:=am hLWe
      have HN0:=am hN0
      have HCEL0:=am hcel0
      have HCEL3:=am hcel3
      clear hfk hwk hLTe hLFe hLWe hN0 hcel0 hcel3 hq0_ hq3_ hown0 hown1 hown3 hpl3 hB3 hs23 hfkl hwkl
      refine start_ (n:=34) (S:=fun w'=>True) (ds:=[]) (bm 34 0) k_r rfl rfl trivial (fun hHeld=>?_)
      refine with_tabW rch.tab18 rch.bits18 (fun HT_ HW_=>?_)
      generalize w3.drew = w4 at BX BL SZ KP R0 R1 R3 HMAP3 HKP3 ⊢
      refine py (i:=0) (N:=some 68) (bm 34 1) ?_
      refine py (i:=2) (N:=some 70) (bm 34 5) ?_
      refine py (i:=5) (N:=some 73) (bm 34 37) ?_
      refine py (i:=7) (N:=some 75) (bm 34 165) ?_
      refine py (i:=9) (N:=some 77) (bm 34 677) ?_
      refine py (i:=15) (N:=some 83) (bm 34 33445) ?_
      refine py (i:=17) (N:=some 85) (bm 34 164517) ?_
      refine py (i:=19) (N:=some 87) (bm 34 688805) ?_
      refine py (i:=22) (N:=some 90) (bm 34 4883109) ?_
      refine inv_at [1,3,4,6,8,10,11,12,13,14,16,18,20,21,23,24,25,26,27,28,29,30,31,32,33] (fun a0_ b a w'=>∃ (l71:Value) (l81:Value) (l91:Value) (l94:Value) (u72:Value) (u82:Value) (u95:Value) (x0:Value) (x1:Value) (x3:Value),a = putSel a0_ b [(1,69,(.slice (some ⟨gu0,0,none⟩) s'.T.length cu0)),(3,71,l71),(4,72,u72),(6,74,(.slice (some ⟨gu1,0,none⟩) s'.T.length cu1)),(8,76,(.slice (some ⟨gu1,0,none⟩) s'.T.length cu1)),(10,78,.pointer (some ⟨gu1,k,none⟩)),(11,79,.int .i64 ((fk:Nat):Int)),(12,80,.int .i64 ((fk + 1:Nat):Int)),(13,81,l81),(14,82,u82),(16,84,(.slice (some ⟨gu3,0,none⟩) s'.T.length cu3)),(18,86,(.slice (some ⟨gu3,0,none⟩) s'.T.length cu3)),(20,88,.pointer (some ⟨gu3,k,none⟩)),(21,89,.string wk),(23,91,l91),(24,92,.string sd),(25,93,.string (wk ++ sd)),(26,94,l94),(27,95,u95),(28,96,.pointer (some ⟨b4,0,none⟩)),(30,97,.pointer (some ⟨b4,1,none⟩)),(32,98,.pointer (some ⟨b4,3,none⟩))] ∧ (w'.heap[b4]? = some (.cells #[x0,x1,v2,x3] 59 (0,0))) ∧ (b 29 = false → (x0:Value) = (.slice (some ⟨gu0,0,none⟩) s'.T.length cu0)) ∧ (b 31 = false → (x1:Value) = (.slice (some ⟨gu1,0,none⟩) s'.T.length cu1)) ∧ (b 33 = false → (x3:Value) = (.slice (some ⟨gu3,0,none⟩) s'.T.length cu3)) ∧ (b 29 = true → (x0:Value) = u72) ∧ (b 31 = true → (x1:Value) = u82) ∧ (b 33 = true → (x3:Value) = u95) ∧ (Below w.heap.size w w') ∧ (N0 ≤ w'.heap.size) ∧ (∀ k_:Nat,k_ < N0 → k_ ≠ gu0 → k_ ≠ gu1 → k_ ≠ gu3 → k_ ≠ b4 → w'.heap[k_]? = w4.heap[k_]?) ∧ (b 4 = false → Kd.R Kd.string 9 w' w.heap.size (fun k_=>k_ = gu0) (.slice (some ⟨gu0,0,none⟩) s'.T.length cu0) LT) ∧ (b 14 = false → Kd.R (Kd.int .i64) 3 w' w.heap.size (fun k_=>k_ = gu1) (.slice (some ⟨gu1,0,none⟩) s'.T.length cu1) LF) ∧ (b 27 = false → Kd.R Kd.string 9 w' w.heap.size (fun k_=>k_ = gu3) (.slice (some ⟨gu3,0,none⟩) s'.T.length cu3) LW) ∧ (b 3 = true → b 4 = false → Kd.R Kd.string 9 w' w.heap.size (fun k_=>N0 ≤ k_) l71 [tx1]) ∧ (b 13 = true → b 14 = false → Kd.R (Kd.int .i64) 3 w' w.heap.size (fun k_=>N0 ≤ k_) l81 [((fk + 1:Nat):Int)]) ∧ (b 23 = true → b 24 = false → Kd.R (Kd.int .u8) 5 w' w.heap.size (fun k_=>N0 ≤ k_) l91 [dirB d]) ∧ (b 26 = true → b 27 = false → Kd.R Kd.string 9 w' w.heap.size (fun k_=>N0 ≤ k_) l94 [wk ++ sd]) ∧ (b 4 = true → Kd.R Kd.string 9 w' w.heap.size (fun k_=>k_ = gu0 ∨ N0 ≤ k_) u72 (LT ++ [tx1])) ∧ (b 14 = true → Kd.R (Kd.int .i64) 3 w' w.heap.size (fun k_=>k_ = gu1 ∨ N0 ≤ k_) u82 (LF ++ [((fk + 1:Nat):Int)])) ∧ (b 27 = true → Kd.R Kd.string 9 w' w.heap.size (fun k_=>k_ = gu3 ∨ N0 ≤ k_) u95 (LW ++ [wk ++ sd])) ∧ (b 27 = true → ∀ k_,(u72:Value).ownBlock = some k_ → some k_ ≠ (u95:Value).ownBlock)) HT_.out HW_.out k_r k_r ?_ ?_ ?_
      ·exact ⟨.bool false,.bool false,.bool false,.bool false,.bool false,.bool false,.bool false,(.slice (some ⟨gu0,0,none⟩) s'.T.length cu0),(.slice (some ⟨gu1,0,none⟩) s'.T.length cu1),(.slice (some ⟨gu3,0,none⟩) s'.T.length cu3),by simp only [putSel,Bool.false_eq_true,if_false],BX.out,fun _=>E0.out,fun _=>E1.out,fun _=>E3.out,fun h_=>absurd h_ d_c,fun h_=>absurd h_ d_c,fun h_=>absurd h_ d_c,BL.out,SZ.out,KP.out,fun _=>R0.out,fun _=>R1.out,fun _=>R3.out,fun h_=>absurd h_ d_c,fun h_=>absurd h_ d_c,fun h_=>absurd h_ d_c,fun h_=>absurd h_ d_c,fun h_=>absurd h_ d_c,fun h_=>absurd h_ d_c,fun h_=>absurd h_ d_c,fun h_=>absurd h_ d_c⟩
      ·skip
       clear BL BX E0 E1 E3 KP R0 R1 R3 SZ
       refine steps_cons ?_ ?_
       ·rintro b a w' ⟨l71,l81,l91,l94,u72,u82,u95,x0,x1,x3,ha,Q_BX,Q_E0,Q_E1,Q_E3,Q_T0,Q_T1,Q_T3,Q_BL,Q_SZ,Q_KP,Q_R0,Q_R1,Q_R3,Q_L71,Q_L81,Q_L91,Q_L94,Q_U72,Q_U82,Q_U95,Q_DD⟩ hb_ hon hoff
        refine ⟨_,rfl,fun K hK=>?_⟩
        have e68:a.tmps[68]? = some (.pointer (some ⟨b4,0,none⟩)):=by rw [ha];exact (putSel_off rfl).trans rfl
        replace ha:=am ha
        have BX:=am Q_BX
        have E0:=am (Q_E0 (hoff 29 k_r))
        have E1:=am (Q_E1 (hoff 31 k_r))
        have E3:=am (Q_E3 (hoff 33 k_r))
        have BL:=am Q_BL
        have SZ:=am Q_SZ
        have KP:=am Q_KP
        have R0:=am (Q_R0 (hoff 4 k_r))
        have R1:=am (Q_R1 (hoff 14 k_r))
        have R3:=am (Q_R3 (hoff 27 k_r))
        have hc_:w'.cell? ⟨b4,0,none⟩ = some (.slice (some ⟨gu0,0,none⟩) s'.T.length cu0):=by have h_:=blk_cell BX.out 0;rw [E0.out] at h_;exact h_
        refine value_ (w1:=w') (v:=(.slice (some ⟨gu0,0,none⟩) s'.T.length cu0)) (by rfl) rfl ?_ ?_
        ·go_simp
         (try simp only [i64_w])
         try rfl
        refine hK.out _ _ ⟨l71,l81,l91,l94,u72,u82,u95,x0,x1,x3,(by rw [ha.out];exact putSel_upk 0 hb_ rfl rfl rfl),Q_BX,Q_E0,Q_E1,Q_E3,fun h0_=>absurd ((hoff 29 k_r).symm.trans h0_) d_c,fun h0_=>absurd ((hoff 31 k_r).symm.trans h0_) d_c,fun h0_=>absurd ((hoff 33 k_r).symm.trans h0_) d_c,Q_BL,Q_SZ,Q_KP,Q_R0,Q_R1,Q_R3,Q_L71,Q_L81,Q_L91,Q_L94,fun h0_=>absurd ((hoff 4 k_r).symm.trans h0_) d_c,fun h0_=>absurd ((hoff 14 k_r).symm.trans h0_) d_c,fun h0_=>absurd ((hoff 27 k_r).symm.trans h0_) d_c,fun h0_=>absurd ((hoff 27 k_r).symm.trans h0_) d_c⟩
       refine steps_cons ?_ ?_
       ·rintro b a w' ⟨l71,l81,l91,l94,u72,u82,u95,x0,x1,x3,ha,Q_BX,Q_E0,Q_E1,Q_E3,Q_T0,Q_T1,Q_T3,Q_BL,Q_SZ,Q_KP,Q_R0,Q_R1,Q_R3,Q_L71,Q_L81,Q_L91,Q_L94,Q_U72,Q_U82,Q_U95,Q_DD⟩ hb_ hon hoff
        refine ⟨_,rfl,fun K hK=>?_⟩
        have e70:a.tmps[70]? = some (.string tx1):=by rw [ha];exact (putSel_off rfl).trans rfl
        replace ha:=am ha
        have BX:=am Q_BX
        have E0:=am (Q_E0 (hoff 29 k_r))
        have E1:=am (Q_E1 (hoff 31 k_r))
        have E3:=am (Q_E3 (hoff 33 k_r))
        have BL:=am Q_BL
        have SZ:=am Q_SZ
        have KP:=am Q_KP
        have R0:=am (Q_R0 (hoff 4 k_r))
        have R1:=am (Q_R1 (hoff 14 k_r))
        have R3:=am (Q_R3 (hoff 27 k_r))
        refine Kd.R_lit_step Kd.string w.heap.size 9 (by rfl) (N:=71) rfl (xs:=[tx1]) (inner:=[.string tx1]) (ok:=fun k_=>N0 ≤ k_) (okp:=fun k_=>N0 ≤ k_) ?hr ?hp (fun _ h_=>h_) SZ.out BL.out (below_size BL.out) (by simp) ?_
        (case hr=>first | (go_simp;done) | (go_simp;rfl))
        (case hp=>exact (Reps.one (show Kd.M Kd.string _ _ _ (tx1) [.string tx1] from rfl) (Reps.none _ _)))
        intro nl_ w1 ho_ hbl_ hg_ hn_
        refine hK.out _ _ ⟨nl_,l81,l91,l94,u72,u82,u95,x0,x1,x3,(by rw [ha.out];exact putSel_upk 1 hb_ rfl rfl rfl),blk_grown BX.out hg_ (by simp),Q_E0,Q_E1,Q_E3,fun h0_=>absurd ((hoff 29 k_r).symm.trans h0_) d_c,fun h0_=>absurd ((hoff 31 k_r).symm.trans h0_) d_c,fun h0_=>absurd ((hoff 33 k_r).symm.trans h0_) d_c,hbl_,Nat.le_trans SZ.out hg_.size,fun k_ a1_ a2_ a3_ a4_ a5_=>(hg_.block k_ (Nat.lt_of_lt_of_le a1_ SZ.out) (by simp)).trans (KP.out k_ a1_ a2_ a3_ a4_ a5_),fun _=>Kd.R_grown R0.out hg_ (fun _ _=>by simp),fun _=>Kd.R_grown R1.out hg_ (fun _ _=>by simp),fun _=>Kd.R_grown R3.out hg_ (fun _ _=>by simp),fun _ _=>ho_,fun h0_ h1_=>Kd.R_grown (Q_L81 h0_ h1_) hg_ (fun _ _=>by simp),fun h0_ h1_=>Kd.R_grown (Q_L91 h0_ h1_) hg_ (fun _ _=>by simp),fun h0_ h1_=>Kd.R_grown (Q_L94 h0_ h1_) hg_ (fun _ _=>by simp),fun h0_=>absurd ((hoff 4 k_r).symm.trans h0_) d_c,fun h0_=>absurd ((hoff 14 k_r).symm.trans h0_) d_c,fun h0_=>absurd ((hoff 27 k_r).symm.trans h0_) d_c,fun h0_=>absurd ((hoff 27 k_r).symm.trans h0_) d_c⟩
       refine steps_cons ?_ ?_
       ·rintro b a w' ⟨l71,l81,l91,l94,u72,u82,u95,x0,x1,x3,ha,Q_BX,Q_E0,Q_E1,Q_E3,Q_T0,Q_T1,Q_T3,Q_BL,Q_SZ,Q_KP,Q_R0,Q_R1,Q_R3,Q_L71,Q_L81,Q_L91,Q_L94,Q_U72,Q_U82,Q_U95,Q_DD⟩ hb_ hon hoff
        refine ⟨_,rfl,fun K hK=>?_⟩
        have e69:a.tmps[69]? = some ((.slice (some ⟨gu0,0,none⟩) s'.T.length cu0)):=by rw [ha];exact putSel_on (e:=(1,69,(.slice (some ⟨gu0,0,none⟩) s'.T.length cu0))) 0 rfl rfl (hon 1 k_r) rfl
        have e71:a.tmps[71]? = some (l71):=by rw [ha];exact putSel_on (e:=(3,71,l71)) 1 rfl rfl (hon 3 k_r) rfl
        replace ha:=am ha
        have BX:=am Q_BX
        have E0:=am (Q_E0 (hoff 29 k_r))
        have E1:=am (Q_E1 (hoff 31 k_r))
        have E3:=am (Q_E3 (hoff 33 k_r))
        have BL:=am Q_BL
        have SZ:=am Q_SZ
        have KP:=am Q_KP
        have R0:=am (Q_R0 hb_)
        have R1:=am (Q_R1 (hoff 14 k_r))
        have R3:=am (Q_R3 (hoff 27 k_r))
        have L71:=am (Q_L71 (hon 3 k_r) hb_)
        obtain ⟨A_,c_,hl_⟩:=Kd.R_slice L71.out
        have hC_:=L71.out
        rw [hl_] at hC_ e71
        refine Kd.R_append_rows_step Kd.string (w0:=w) w.heap.size (by rfl) (.tmp 69) (.tmp 71) 35 9 (.string ⟨#[]⟩) 16 rfl Tryz.underlying35 info9 rfl d_c o_m (.slice (some ⟨gu0,0,none⟩) s'.T.length cu0) LT [tx1] A_ 1 c_ (fun k_=>k_ = gu0 ∨ N0 ≤ k_) (fun _=>False) (eval_of e69) (eval_of e71) ?aO (Kd.R_reads' hC_).2.2 (fun _ _ h_=>h_) (fun _ h_=>h_.elim) ?aF BL.out (below_size BL.out) ?aL ?_
        (case aO=>exact Kd.R_mono R0.out (fun _ h_=>Or.inl h_))
        (case aF=>exact fun k_ h_=>Or.inr (Nat.le_trans SZ.out h_))
        (case aL=>rw [hLT];omega)
        intro nu_ w1 ho_ hbl_ hg_ hat_
        replace hg_:w'.grownBy w1 (some gu0):=hg_
        refine hK.out _ _ ⟨l71,l81,l91,l94,nu_,u82,u95,x0,x1,x3,(by rw [ha.out];exact putSel_upk 2 hb_ rfl rfl rfl),blk_grown BX.out hg_ (fun e_=>by injection e_ with e_;omega),Q_E0,Q_E1,Q_E3,fun h0_=>absurd ((hoff 29 k_r).symm.trans h0_) d_c,fun h0_=>absurd ((hoff 31 k_r).symm.trans h0_) d_c,fun h0_=>absurd ((hoff 33 k_r).symm.trans h0_) d_c,hbl_,Nat.le_trans SZ.out hg_.size,fun k_ a1_ a2_ a3_ a4_ a5_=>(hg_.block k_ (Nat.lt_of_lt_of_le a1_ SZ.out) (fun e_=>by injection e_ with e_;omega)).trans (KP.out k_ a1_ a2_ a3_ a4_ a5_),fun h0_=>absurd ((up_self b 4).symm.trans h0_) d_c,fun _=>Kd.R_grown R1.out hg_ (fun k_ h_ e_=>by injection e_ with e_;subst e_;omega),fun _=>Kd.R_grown R3.out hg_ (fun k_ h_ e_=>by injection e_ with e_;subst e_;omega),fun _ h1_=>absurd ((up_self b 4).symm.trans h1_) d_c,fun h0_ h1_=>Kd.R_grown (Q_L81 h0_ h1_) hg_ (fun k_ h_ e_=>by injection e_ with e_;subst e_;omega),fun h0_ h1_=>Kd.R_grown (Q_L91 h0_ h1_) hg_ (fun k_ h_ e_=>by injection e_ with e_;subst e_;omega),fun h0_ h1_=>Kd.R_grown (Q_L94 h0_ h1_) hg_ (fun k_ h_ e_=>by injection e_ with e_;subst e_;omega),fun _=>ho_,fun h0_=>absurd ((hoff 14 k_r).symm.trans h0_) d_c,fun h0_=>absurd ((hoff 27 k_r).symm.trans h0_) d_c,fun h0_=>absurd ((hoff 27 k_r).symm.trans h0_) d_c⟩
       refine steps_cons ?_ ?_
       ·rintro b a w' ⟨l71,l81,l91,l94,u72,u82,u95,x0,x1,x3,ha,Q_BX,Q_E0,Q_E1,Q_E3,Q_T0,Q_T1,Q_T3,Q_BL,Q_SZ,Q_KP,Q_R0,Q_R1,Q_R3,Q_L71,Q_L81,Q_L91,Q_L94,Q_U72,Q_U82,Q_U95,Q_DD⟩ hb_ hon hoff
        refine ⟨_,rfl,fun K hK=>?_⟩
        have e73:a.tmps[73]? = some (.pointer (some ⟨b4,1,none⟩)):=by rw [ha];exact (putSel_off rfl).trans rfl
        replace ha:=am ha
        have BX:=am Q_BX
        have E0:=am (Q_E0 (hoff 29 k_r))
        have E1:=am (Q_E1 (hoff 31 k_r))
        have E3:=am (Q_E3 (hoff 33 k_r))
        have BL:=am Q_BL
        have SZ:=am Q_SZ
        have KP:=am Q_KP
        have R1:=am (Q_R1 (hoff 14 k_r))
        have R3:=am (Q_R3 (hoff 27 k_r))
        have hc_:w'.cell? ⟨b4,1,none⟩ = some (.slice (some ⟨gu1,0,none⟩) s'.T.length cu1):=by have h_:=blk_cell BX.out 1;rw [E1.out] at h_;exact h_
        refine value_ (w1:=w') (v:=(.slice (some ⟨gu1,0,none⟩) s'.T.length cu1)) (by rfl) rfl ?_ ?_
        ·go_simp
         (try simp only [i64_w])
         try rfl
        refine hK.out _ _ ⟨l71,l81,l91,l94,u72,u82,u95,x0,x1,x3,(by rw [ha.out];exact putSel_upk 3 hb_ rfl rfl rfl),Q_BX,Q_E0,Q_E1,Q_E3,fun h0_=>absurd ((hoff 29 k_r).symm.trans h0_) d_c,fun h0_=>absurd ((hoff 31 k_r).symm.trans h0_) d_c,fun h0_=>absurd ((hoff 33 k_r).symm.trans h0_) d_c,Q_BL,Q_SZ,Q_KP,Q_R0,Q_R1,Q_R3,Q_L71,Q_L81,Q_L91,Q_L94,Q_U72,fun h0_=>absurd ((hoff 14 k_r).symm.trans h0_) d_c,fun h0_=>absurd ((hoff 27 k_r).symm.trans h0_) d_c,fun h0_=>absurd ((hoff 27 k_r).symm.trans h0_) d_c⟩
       refine steps_cons ?_ ?_
       ·rintro b a w' ⟨l71,l81,l91,l94,u72,u82,u95,x0,x1,x3,ha,Q_BX,Q_E0,Q_E1,Q_E3,Q_T0,Q_T1,Q_T3,Q_BL,Q_SZ,Q_KP,Q_R0,Q_R1,Q_R3,Q_L71,Q_L81,Q_L91,Q_L94,Q_U72,Q_U82,Q_U95,Q_DD⟩ hb_ hon hoff
        refine ⟨_,rfl,fun K hK=>?_⟩
        have e75:a.tmps[75]? = some (.pointer (some ⟨b4,1,none⟩)):=by rw [ha];exact (putSel_off rfl).trans rfl
        replace ha:=am ha
        have BX:=am Q_BX
        have E0:=am (Q_E0 (hoff 29 k_r))
        have E1:=am (Q_E1 (hoff 31 k_r))
        have E3:=am (Q_E3 (hoff 33 k_r))
        have BL:=am Q_BL
        have SZ:=am Q_SZ
        have KP:=am Q_KP
        have R1:=am (Q_R1 (hoff 14 k_r))
        have R3:=am (Q_R3 (hoff 27 k_r))
        have hc_:w'.cell? ⟨b4,1,none⟩ = some (.slice (some ⟨gu1,0,none⟩) s'.T.length cu1):=by have h_:=blk_cell BX.out 1;rw [E1.out] at h_;exact h_
        refine value_ (w1:=w') (v:=(.slice (some ⟨gu1,0,none⟩) s'.T.length cu1)) (by rfl) rfl ?_ ?_
        ·go_simp
         (try simp only [i64_w])
         try rfl
        refine hK.out _ _ ⟨l71,l81,l91,l94,u72,u82,u95,x0,x1,x3,(by rw [ha.out];exact putSel_upk 4 hb_ rfl rfl rfl),Q_BX,Q_E0,Q_E1,Q_E3,fun h0_=>absurd ((hoff 29 k_r).symm.trans h0_) d_c,fun h0_=>absurd ((hoff 31 k_r).symm.trans h0_) d_c,fun h0_=>absurd ((hoff 33 k_r).symm.trans h0_) d_c,Q_BL,Q_SZ,Q_KP,Q_R0,Q_R1,Q_R3,Q_L71,fun h0_ _=>absurd ((hoff 13 k_r).symm.trans h0_) d_c,Q_L91,Q_L94,Q_U72,fun h0_=>absurd ((hoff 14 k_r).symm.trans h0_) d_c,fun h0_=>absurd ((hoff 27 k_r).symm.trans h0_) d_c,fun h0_=>absurd ((hoff 27 k_r).symm.trans h0_) d_c⟩
       refine steps_cons ?_ ?_
       ·rintro b a w' ⟨l71,l81,l91,l94,u72,u82,u95,x0,x1,x3,ha,Q_BX,Q_E0,Q_E1,Q_E3,Q_T0,Q_T1,Q_T3,Q_BL,Q_SZ,Q_KP,Q_R0,Q_R1,Q_R3,Q_L71,Q_L81,Q_L91,Q_L94,Q_U72,Q_U82,Q_U95,Q_DD⟩ hb_ hon hoff
        refine ⟨_,rfl,fun K hK=>?_⟩
        have e76:a.tmps[76]? = some ((.slice (some ⟨gu1,0,none⟩) s'.T.length cu1)):=by rw [ha];exact putSel_on (e:=(8,76,(.slice (some ⟨gu1,0,none⟩) s'.T.length cu1))) 4 rfl rfl (hon 8 k_r) rfl
        have e77:a.tmps[77]? = some (.int .i64 (k:Int)):=by rw [ha];exact (putSel_off rfl).trans rfl
        replace ha:=am ha
        have BX:=am Q_BX
        have E0:=am (Q_E0 (hoff 29 k_r))
        have E1:=am (Q_E1 (hoff 31 k_r))
        have E3:=am (Q_E3 (hoff 33 k_r))
        have BL:=am Q_BL
        have SZ:=am Q_SZ
        have KP:=am Q_KP
        have R1:=am (Q_R1 (hoff 14 k_r))
        have R3:=am (Q_R3 (hoff 27 k_r))
        refine value_ (w1:=w') (v:=.pointer (some ⟨gu1,k,none⟩)) (by rfl) rfl ?_ ?_
        ·go_simp
         (try simp only [i64_w])
         try rfl
        refine hK.out _ _ ⟨l71,l81,l91,l94,u72,u82,u95,x0,x1,x3,(by rw [ha.out];exact putSel_upk 5 hb_ rfl rfl rfl),Q_BX,Q_E0,Q_E1,Q_E3,fun h0_=>absurd ((hoff 29 k_r).symm.trans h0_) d_c,fun h0_=>absurd ((hoff 31 k_r).symm.trans h0_) d_c,fun h0_=>absurd ((hoff 33 k_r).symm.trans h0_) d_c,Q_BL,Q_SZ,Q_KP,Q_R0,Q_R1,Q_R3,Q_L71,fun h0_ _=>absurd ((hoff 13 k_r).symm.trans h0_) d_c,Q_L91,Q_L94,Q_U72,fun h0_=>absurd ((hoff 14 k_r).symm.trans h0_) d_c,fun h0_=>absurd ((hoff 27 k_r).symm.trans h0_) d_c,fun h0_=>absurd ((hoff 27 k_r).symm.trans h0_) d_c⟩
       refine steps_cons ?_ ?_
       ·rintro b a w' ⟨l71,l81,l91,l94,u72,u82,u95,x0,x1,x3,ha,Q_BX,Q_E0,Q_E1,Q_E3,Q_T0,Q_T1,Q_T3,Q_BL,Q_SZ,Q_KP,Q_R0,Q_R1,Q_R3,Q_L71,Q_L81,Q_L91,Q_L94,Q_U72,Q_U82,Q_U95,Q_DD⟩ hb_ hon hoff
        refine ⟨_,rfl,fun K hK=>?_⟩
        have e78:a.tmps[78]? = some (.pointer (some ⟨gu1,k,none⟩)):=by rw [ha];exact putSel_on (e:=(10,78,.pointer (some ⟨gu1,k,none⟩))) 5 rfl rfl (hon 10 k_r) rfl
        replace ha:=am ha
        have BX:=am Q_BX
        have E0:=am (Q_E0 (hoff 29 k_r))
        have E1:=am (Q_E1 (hoff 31 k_r))
        have E3:=am (Q_E3 (hoff 33 k_r))
        have BL:=am Q_BL
        have SZ:=am Q_SZ
        have KP:=am Q_KP
        have R1:=am (Q_R1 (hoff 14 k_r))
        have R3:=am (Q_R3 (hoff 27 k_r))
        have hc_:w'.cell? ⟨gu1,k,none⟩ = some (.int .i64 ((fk:Nat):Int)):=R_el R1.out hFK_
        refine value_ (w1:=w') (v:=.int .i64 ((fk:Nat):Int)) (by rfl) rfl ?_ ?_
        ·go_simp
         (try simp only [i64_w])
         try rfl
        refine hK.out _ _ ⟨l71,l81,l91,l94,u72,u82,u95,x0,x1,x3,(by rw [ha.out];exact putSel_upk 6 hb_ rfl rfl rfl),Q_BX,Q_E0,Q_E1,Q_E3,fun h0_=>absurd ((hoff 29 k_r).symm.trans h0_) d_c,fun h0_=>absurd ((hoff 31 k_r).symm.trans h0_) d_c,fun h0_=>absurd ((hoff 33 k_r).symm.trans h0_) d_c,Q_BL,Q_SZ,Q_KP,Q_R0,Q_R1,Q_R3,Q_L71,fun h0_ _=>absurd ((hoff 13 k_r).symm.trans h0_) d_c,Q_L91,Q_L94,Q_U72,fun h0_=>absurd ((hoff 14 k_r).symm.trans h0_) d_c,fun h0_=>absurd ((hoff 27 k_r).symm.trans h0_) d_c,fun h0_=>absurd ((hoff 27 k_r).symm.trans h0_) d_c⟩
       refine steps_cons ?_ ?_
       ·rintro b a w' ⟨l71,l81,l91,l94,u72,u82,u95,x0,x1,x3,ha,Q_BX,Q_E0,Q_E1,Q_E3,Q_T0,Q_T1,Q_T3,Q_BL,Q_SZ,Q_KP,Q_R0,Q_R1,Q_R3,Q_L71,Q_L81,Q_L91,Q_L94,Q_U72,Q_U82,Q_U95,Q_DD⟩ hb_ hon hoff
        refine ⟨_,rfl,fun K hK=>?_⟩
        have e79:a.tmps[79]? = some (.int .i64 ((fk:Nat):Int)):=by rw [ha];exact putSel_on (e:=(11,79,.int .i64 ((fk:Nat):Int))) 6 rfl rfl (hon 11 k_r) rfl
        replace ha:=am ha
        have BX:=am Q_BX
        have E0:=am (Q_E0 (hoff 29 k_r))
        have E1:=am (Q_E1 (hoff 31 k_r))
        have E3:=am (Q_E3 (hoff 33 k_r))
        have BL:=am Q_BL
        have SZ:=am Q_SZ
        have KP:=am Q_KP
        have R1:=am (Q_R1 (hoff 14 k_r))
        have R3:=am (Q_R3 (hoff 27 k_r))
        refine value_ (w1:=w') (v:=.int .i64 ((fk + 1:Nat):Int)) (by rfl) rfl ?_ ?_
        ·go_simp
         (try simp only [i64_w])
         try rfl
        refine hK.out _ _ ⟨l71,l81,l91,l94,u72,u82,u95,x0,x1,x3,(by rw [ha.out];exact putSel_upk 7 hb_ rfl rfl rfl),Q_BX,Q_E0,Q_E1,Q_E3,fun h0_=>absurd ((hoff 29 k_r).symm.trans h0_) d_c,fun h0_=>absurd ((hoff 31 k_r).symm.trans h0_) d_c,fun h0_=>absurd ((hoff 33 k_r).symm.trans h0_) d_c,Q_BL,Q_SZ,Q_KP,Q_R0,Q_R1,Q_R3,Q_L71,fun h0_ _=>absurd ((hoff 13 k_r).symm.trans h0_) d_c,Q_L91,Q_L94,Q_U72,fun h0_=>absurd ((hoff 14 k_r).symm.trans h0_) d_c,fun h0_=>absurd ((hoff 27 k_r).symm.trans h0_) d_c,fun h0_=>absurd ((hoff 27 k_r).symm.trans h0_) d_c⟩
       refine steps_cons ?_ ?_
       ·rintro b a w' ⟨l71,l81,l91,l94,u72,u82,u95,x0,x1,x3,ha,Q_BX,Q_E0,Q_E1,Q_E3,Q_T0,Q_T1,Q_T3,Q_BL,Q_SZ,Q_KP,Q_R0,Q_R1,Q_R3,Q_L71,Q_L81,Q_L91,Q_L94,Q_U72,Q_U82,Q_U95,Q_DD⟩ hb_ hon hoff
        refine ⟨_,rfl,fun K hK=>?_⟩
        have e80:a.tmps[80]? = some (.int .i64 ((fk + 1:Nat):Int)):=by rw [ha];exact putSel_on (e:=(12,80,.int .i64 ((fk + 1:Nat):Int))) 7 rfl rfl (hon 12 k_r) rfl
        replace ha:=am ha
        have BX:=am Q_BX
        have E0:=am (Q_E0 (hoff 29 k_r))
        have E1:=am (Q_E1 (hoff 31 k_r))
        have E3:=am (Q_E3 (hoff 33 k_r))
        have BL:=am Q_BL
        have SZ:=am Q_SZ
        have KP:=am Q_KP
        have R1:=am (Q_R1 (hoff 14 k_r))
        have R3:=am (Q_R3 (hoff 27 k_r))
        refine Kd.R_lit_step (Kd.int .i64) w.heap.size 3 (by rfl) (N:=81) rfl (xs:=[((fk + 1:Nat):Int)]) (inner:=[.int .i64 ((fk + 1:Nat):Int)]) (ok:=fun k_=>N0 ≤ k_) (okp:=fun k_=>N0 ≤ k_) ?hr ?hp (fun _ h_=>h_) SZ.out BL.out (below_size BL.out) (by simp) ?_
        (case hr=>first | (go_simp;done) | (go_simp;rfl))
        (case hp=>exact (Reps.one (show Kd.M (Kd.int .i64) _ _ _ (((fk + 1:Nat):Int)) [.int .i64 ((fk + 1:Nat):Int)] from rfl) (Reps.none _ _)))
        intro nl_ w1 ho_ hbl_ hg_ hn_
        refine hK.out _ _ ⟨l71,nl_,l91,l94,u72,u82,u95,x0,x1,x3,(by rw [ha.out];exact putSel_upk 8 hb_ rfl rfl rfl),blk_grown BX.out hg_ (by simp),Q_E0,Q_E1,Q_E3,fun h0_=>absurd ((hoff 29 k_r).symm.trans h0_) d_c,fun h0_=>absurd ((hoff 31 k_r).symm.trans h0_) d_c,fun h0_=>absurd ((hoff 33 k_r).symm.trans h0_) d_c,hbl_,Nat.le_trans SZ.out hg_.size,fun k_ a1_ a2_ a3_ a4_ a5_=>(hg_.block k_ (Nat.lt_of_lt_of_le a1_ SZ.out) (by simp)).trans (KP.out k_ a1_ a2_ a3_ a4_ a5_),fun h0_=>Kd.R_grown (Q_R0 h0_) hg_ (fun _ _=>by simp),fun _=>Kd.R_grown R1.out hg_ (fun _ _=>by simp),fun _=>Kd.R_grown R3.out hg_ (fun _ _=>by simp),fun h0_ h1_=>Kd.R_grown (Q_L71 h0_ h1_) hg_ (fun _ _=>by simp),fun _ _=>ho_,fun h0_ h1_=>Kd.R_grown (Q_L91 h0_ h1_) hg_ (fun _ _=>by simp),fun h0_ h1_=>Kd.R_grown (Q_L94 h0_ h1_) hg_ (fun _ _=>by simp),fun h0_=>Kd.R_grown (Q_U72 h0_) hg_ (fun _ _=>by simp),fun h0_=>absurd ((hoff 14 k_r).symm.trans h0_) d_c,fun h0_=>absurd ((hoff 27 k_r).symm.trans h0_) d_c,fun h0_=>absurd ((hoff 27 k_r).symm.trans h0_) d_c⟩
       refine steps_cons ?_ ?_
       ·rintro b a w' ⟨l71,l81,l91,l94,u72,u82,u95,x0,x1,x3,ha,Q_BX,Q_E0,Q_E1,Q_E3,Q_T0,Q_T1,Q_T3,Q_BL,Q_SZ,Q_KP,Q_R0,Q_R1,Q_R3,Q_L71,Q_L81,Q_L91,Q_L94,Q_U72,Q_U82,Q_U95,Q_DD⟩ hb_ hon hoff
        refine ⟨_,rfl,fun K hK=>?_⟩
        have e74:a.tmps[74]? = some ((.slice (some ⟨gu1,0,none⟩) s'.T.length cu1)):=by rw [ha];exact putSel_on (e:=(6,74,(.slice (some ⟨gu1,0,none⟩) s'.T.length cu1))) 3 rfl rfl (hon 6 k_r) rfl
        have e81:a.tmps[81]? = some (l81):=by rw [ha];exact putSel_on (e:=(13,81,l81)) 8 rfl rfl (hon 13 k_r) rfl
        replace ha:=am ha
        have BX:=am Q_BX
        have E0:=am (Q_E0 (hoff 29 k_r))
        have E1:=am (Q_E1 (hoff 31 k_r))
        have E3:=am (Q_E3 (hoff 33 k_r))
        have BL:=am Q_BL
        have SZ:=am Q_SZ
        have KP:=am Q_KP
        have R1:=am (Q_R1 hb_)
        have R3:=am (Q_R3 (hoff 27 k_r))
        have L81:=am (Q_L81 (hon 13 k_r) hb_)
        have U72:=am (Q_U72 (hon 4 k_r))
        obtain ⟨A_,c_,hl_⟩:=Kd.R_slice L81.out
        have hC_:=L81.out
        rw [hl_] at hC_ e81
        refine Kd.R_append_rows_step (Kd.int .i64) (w0:=w) w.heap.size (by rfl) (.tmp 74) (.tmp 81) 40 3 (.int .i64 0) 8 rfl Tryz.underlying40 info3 rfl d_c o_m (.slice (some ⟨gu1,0,none⟩) s'.T.length cu1) LF [((fk + 1:Nat):Int)] A_ 1 c_ (fun k_=>k_ = gu1 ∨ N0 ≤ k_) (fun _=>False) (eval_of e74) (eval_of e81) ?aO (Kd.R_reads' hC_).2.2 (fun _ _ h_=>h_) (fun _ h_=>h_.elim) ?aF BL.out (below_size BL.out) ?aL ?_
        (case aO=>exact Kd.R_mono R1.out (fun _ h_=>Or.inl h_))
        (case aF=>exact fun k_ h_=>Or.inr (Nat.le_trans SZ.out h_))
        (case aL=>rw [hLF];omega)
        intro nu_ w1 ho_ hbl_ hg_ hat_
        replace hg_:w'.grownBy w1 (some gu1):=hg_
        refine hK.out _ _ ⟨l71,l81,l91,l94,u72,nu_,u95,x0,x1,x3,(by rw [ha.out];exact putSel_upk 9 hb_ rfl rfl rfl),blk_grown BX.out hg_ (fun e_=>by injection e_ with e_;omega),Q_E0,Q_E1,Q_E3,fun h0_=>absurd ((hoff 29 k_r).symm.trans h0_) d_c,fun h0_=>absurd ((hoff 31 k_r).symm.trans h0_) d_c,fun h0_=>absurd ((hoff 33 k_r).symm.trans h0_) d_c,hbl_,Nat.le_trans SZ.out hg_.size,fun k_ a1_ a2_ a3_ a4_ a5_=>(hg_.block k_ (Nat.lt_of_lt_of_le a1_ SZ.out) (fun e_=>by injection e_ with e_;omega)).trans (KP.out k_ a1_ a2_ a3_ a4_ a5_),fun h0_=>absurd ((hon 4 k_r).symm.trans h0_) d_c,fun h0_=>absurd ((up_self b 14).symm.trans h0_) d_c,fun _=>Kd.R_grown R3.out hg_ (fun k_ h_ e_=>by injection e_ with e_;subst e_;omega),fun _ h1_=>absurd ((hon 4 k_r).symm.trans h1_) d_c,fun _ h1_=>absurd ((up_self b 14).symm.trans h1_) d_c,fun h0_ h1_=>Kd.R_grown (Q_L91 h0_ h1_) hg_ (fun k_ h_ e_=>by injection e_ with e_;subst e_;omega),fun h0_ h1_=>Kd.R_grown (Q_L94 h0_ h1_) hg_ (fun k_ h_ e_=>by injection e_ with e_;subst e_;omega),fun _=>Kd.R_grown U72.out hg_ (fun k_ h_ e_=>by injection e_ with e_;subst e_;omega),fun _=>ho_,fun h0_=>absurd ((hoff 27 k_r).symm.trans h0_) d_c,fun h0_=>absurd ((hoff 27 k_r).symm.trans h0_) d_c⟩
       refine steps_cons ?_ ?_
       ·rintro b a w' ⟨l71,l81,l91,l94,u72,u82,u95,x0,x1,x3,ha,Q_BX,Q_E0,Q_E1,Q_E3,Q_T0,Q_T1,Q_T3,Q_BL,Q_SZ,Q_KP,Q_R0,Q_R1,Q_R3,Q_L71,Q_L81,Q_L91,Q_L94,Q_U72,Q_U82,Q_U95,Q_DD⟩ hb_ hon hoff
        refine ⟨_,rfl,fun K hK=>?_⟩
        have e83:a.tmps[83]? = some (.pointer (some ⟨b4,3,none⟩)):=by rw [ha];exact (putSel_off rfl).trans rfl
        replace ha:=am ha
        have BX:=am Q_BX
        have E0:=am (Q_E0 (hoff 29 k_r))
        have E1:=am (Q_E1 (hoff 31 k_r))
        have E3:=am (Q_E3 (hoff 33 k_r))
        have BL:=am Q_BL
        have SZ:=am Q_SZ
        have KP:=am Q_KP
        have R3:=am (Q_R3 (hoff 27 k_r))
        have hc_:w'.cell? ⟨b4,3,none⟩ = some (.slice (some ⟨gu3,0,none⟩) s'.T.length cu3):=by have h_:=blk_cell BX.out 3;rw [E3.out] at h_;exact h_
        refine value_ (w1:=w') (v:=(.slice (some ⟨gu3,0,none⟩) s'.T.length cu3)) (by rfl) rfl ?_ ?_
        ·go_simp
         (try simp only [i64_w])
         try rfl
        refine hK.out _ _ ⟨l71,l81,l91,l94,u72,u82,u95,x0,x1,x3,(by rw [ha.out];exact putSel_upk 10 hb_ rfl rfl rfl),Q_BX,Q_E0,Q_E1,Q_E3,fun h0_=>absurd ((hoff 29 k_r).symm.trans h0_) d_c,fun h0_=>absurd ((hoff 31 k_r).symm.trans h0_) d_c,fun h0_=>absurd ((hoff 33 k_r).symm.trans h0_) d_c,Q_BL,Q_SZ,Q_KP,Q_R0,Q_R1,Q_R3,Q_L71,Q_L81,Q_L91,Q_L94,Q_U72,Q_U82,fun h0_=>absurd ((hoff 27 k_r).symm.trans h0_) d_c,fun h0_=>absurd ((hoff 27 k_r).symm.trans h0_) d_c⟩
       refine steps_cons ?_ ?_
       ·rintro b a w' ⟨l71,l81,l91,l94,u72,u82,u95,x0,x1,x3,ha,Q_BX,Q_E0,Q_E1,Q_E3,Q_T0,Q_T1,Q_T3,Q_BL,Q_SZ,Q_KP,Q_R0,Q_R1,Q_R3,Q_L71,Q_L81,Q_L91,Q_L94,Q_U72,Q_U82,Q_U95,Q_DD⟩ hb_ hon hoff
        refine ⟨_,rfl,fun K hK=>?_⟩
        have e85:a.tmps[85]? = some (.pointer (some ⟨b4,3,none⟩)):=by rw [ha];exact (putSel_off rfl).trans rfl
        replace ha:=am ha
        have BX:=am Q_BX
        have E0:=am (Q_E0 (hoff 29 k_r))
        have E1:=am (Q_E1 (hoff 31 k_r))
        have E3:=am (Q_E3 (hoff 33 k_r))
        have BL:=am Q_BL
        have SZ:=am Q_SZ
        have KP:=am Q_KP
        have R3:=am (Q_R3 (hoff 27 k_r))
        have hc_:w'.cell? ⟨b4,3,none⟩ = some (.slice (some ⟨gu3,0,none⟩) s'.T.length cu3):=by have h_:=blk_cell BX.out 3;rw [E3.out] at h_;exact h_
        refine value_ (w1:=w') (v:=(.slice (some ⟨gu3,0,none⟩) s'.T.length cu3)) (by rfl) rfl ?_ ?_
        ·go_simp
         (try simp only [i64_w])
         try rfl
        refine hK.out _ _ ⟨l71,l81,l91,l94,u72,u82,u95,x0,x1,x3,(by rw [ha.out];exact putSel_upk 11 hb_ rfl rfl rfl),Q_BX,Q_E0,Q_E1,Q_E3,fun h0_=>absurd ((hoff 29 k_r).symm.trans h0_) d_c,fun h0_=>absurd ((hoff 31 k_r).symm.trans h0_) d_c,fun h0_=>absurd ((hoff 33 k_r).symm.trans h0_) d_c,Q_BL,Q_SZ,Q_KP,Q_R0,Q_R1,Q_R3,Q_L71,Q_L81,Q_L91,fun h0_ _=>absurd ((hoff 26 k_r).symm.trans h0_) d_c,Q_U72,Q_U82,fun h0_=>absurd ((hoff 27 k_r).symm.trans h0_) d_c,fun h0_=>absurd ((hoff 27 k_r).symm.trans h0_) d_c⟩
       refine steps_cons ?_ ?_
       ·rintro b a w' ⟨l71,l81,l91,l94,u72,u82,u95,x0,x1,x3,ha,Q_BX,Q_E0,Q_E1,Q_E3,Q_T0,Q_T1,Q_T3,Q_BL,Q_SZ,Q_KP,Q_R0,Q_R1,Q_R3,Q_L71,Q_L81,Q_L91,Q_L94,Q_U72,Q_U82,Q_U95,Q_DD⟩ hb_ hon hoff
        refine ⟨_,rfl,fun K hK=>?_⟩
        have e86:a.tmps[86]? = some ((.slice (some ⟨gu3,0,none⟩) s'.T.length cu3)):=by rw [ha];exact putSel_on (e:=(18,86,(.slice (some ⟨gu3,0,none⟩) s'.T.length cu3))) 11 rfl rfl (hon 18 k_r) rfl
        have e87:a.tmps[87]? = some (.int .i64 (k:Int)):=by rw [ha];exact (putSel_off rfl).trans rfl
        replace ha:=am ha
        have BX:=am Q_BX
        have E0:=am (Q_E0 (hoff 29 k_r))
        have E1:=am (Q_E1 (hoff 31 k_r))
        have E3:=am (Q_E3 (hoff 33 k_r))
        have BL:=am Q_BL
        have SZ:=am Q_SZ
        have KP:=am Q_KP
        have R3:=am (Q_R3 (hoff 27 k_r))
        refine value_ (w1:=w') (v:=.pointer (some ⟨gu3,k,none⟩)) (by rfl) rfl ?_ ?_
        ·go_simp
         (try simp only [i64_w])
         try rfl
        refine hK.out _ _ ⟨l71,l81,l91,l94,u72,u82,u95,x0,x1,x3,(by rw [ha.out];exact putSel_upk 12 hb_ rfl rfl rfl),Q_BX,Q_E0,Q_E1,Q_E3,fun h0_=>absurd ((hoff 29 k_r).symm.trans h0_) d_c,fun h0_=>absurd ((hoff 31 k_r).symm.trans h0_) d_c,fun h0_=>absurd ((hoff 33 k_r).symm.trans h0_) d_c,Q_BL,Q_SZ,Q_KP,Q_R0,Q_R1,Q_R3,Q_L71,Q_L81,Q_L91,fun h0_ _=>absurd ((hoff 26 k_r).symm.trans h0_) d_c,Q_U72,Q_U82,fun h0_=>absurd ((hoff 27 k_r).symm.trans h0_) d_c,fun h0_=>absurd ((hoff 27 k_r).symm.trans h0_) d_c⟩
       refine steps_cons ?_ ?_
       ·rintro b a w' ⟨l71,l81,l91,l94,u72,u82,u95,x0,x1,x3,ha,Q_BX,Q_E0,Q_E1,Q_E3,Q_T0,Q_T1,Q_T3,Q_BL,Q_SZ,Q_KP,Q_R0,Q_R1,Q_R3,Q_L71,Q_L81,Q_L91,Q_L94,Q_U72,Q_U82,Q_U95,Q_DD⟩ hb_ hon hoff
        refine ⟨_,rfl,fun K hK=>?_⟩
        have e88:a.tmps[88]? = some (.pointer (some ⟨gu3,k,none⟩)):=by rw [ha];exact putSel_on (e:=(20,88,.pointer (some ⟨gu3,k,none⟩))) 12 rfl rfl (hon 20 k_r) rfl
        replace ha:=am ha
        have BX:=am Q_BX
        have E0:=am (Q_E0 (hoff 29 k_r))
        have E1:=am (Q_E1 (hoff 31 k_r))
        have E3:=am (Q_E3 (hoff 33 k_r))
        have BL:=am Q_BL
        have SZ:=am Q_SZ
        have KP:=am Q_KP
        have R3:=am (Q_R3 (hoff 27 k_r))
        have hc_:w'.cell? ⟨gu3,k,none⟩ = some (.string wk):=R_el R3.out hWK_
        refine value_ (w1:=w') (v:=.string wk) (by rfl) rfl ?_ ?_
        ·go_simp
         (try simp only [i64_w])
         try rfl
        refine hK.out _ _ ⟨l71,l81,l91,l94,u72,u82,u95,x0,x1,x3,(by rw [ha.out];exact putSel_upk 13 hb_ rfl rfl rfl),Q_BX,Q_E0,Q_E1,Q_E3,fun h0_=>absurd ((hoff 29 k_r).symm.trans h0_) d_c,fun h0_=>absurd ((hoff 31 k_r).symm.trans h0_) d_c,fun h0_=>absurd ((hoff 33 k_r).symm.trans h0_) d_c,Q_BL,Q_SZ,Q_KP,Q_R0,Q_R1,Q_R3,Q_L71,Q_L81,Q_L91,fun h0_ _=>absurd ((hoff 26 k_r).symm.trans h0_) d_c,Q_U72,Q_U82,fun h0_=>absurd ((hoff 27 k_r).symm.trans h0_) d_c,fun h0_=>absurd ((hoff 27 k_r).symm.trans h0_) d_c⟩
       refine steps_cons ?_ ?_
       ·rintro b a w' ⟨l71,l81,l91,l94,u72,u82,u95,x0,x1,x3,ha,Q_BX,Q_E0,Q_E1,Q_E3,Q_T0,Q_T1,Q_T3,Q_BL,Q_SZ,Q_KP,Q_R0,Q_R1,Q_R3,Q_L71,Q_L81,Q_L91,Q_L94,Q_U72,Q_U82,Q_U95,Q_DD⟩ hb_ hon hoff
        refine ⟨_,rfl,fun K hK=>?_⟩
        have e90:a.tmps[90]? = some (.int .u8 (dirB d)):=by rw [ha];exact (putSel_off rfl).trans rfl
        replace ha:=am ha
        have BX:=am Q_BX
        have E0:=am (Q_E0 (hoff 29 k_r))
        have E1:=am (Q_E1 (hoff 31 k_r))
        have E3:=am (Q_E3 (hoff 33 k_r))
        have BL:=am Q_BL
        have SZ:=am Q_SZ
        have KP:=am Q_KP
        have R3:=am (Q_R3 (hoff 27 k_r))
        refine Kd.R_lit_step (Kd.int .u8) w.heap.size 5 (by rfl) (N:=91) rfl (xs:=[dirB d]) (inner:=[.int .u8 (dirB d)]) (ok:=fun k_=>N0 ≤ k_) (okp:=fun k_=>N0 ≤ k_) ?hr ?hp (fun _ h_=>h_) SZ.out BL.out (below_size BL.out) (by simp) ?_
        (case hr=>first | (go_simp;done) | (go_simp;rfl))
        (case hp=>exact (Reps.one (show Kd.M (Kd.int .u8) _ _ _ (dirB d) [.int .u8 (dirB d)] from rfl) (Reps.none _ _)))
        intro nl_ w1 ho_ hbl_ hg_ hn_
        refine hK.out _ _ ⟨l71,l81,nl_,l94,u72,u82,u95,x0,x1,x3,(by rw [ha.out];exact putSel_upk 14 hb_ rfl rfl rfl),blk_grown BX.out hg_ (by simp),Q_E0,Q_E1,Q_E3,fun h0_=>absurd ((hoff 29 k_r).symm.trans h0_) d_c,fun h0_=>absurd ((hoff 31 k_r).symm.trans h0_) d_c,fun h0_=>absurd ((hoff 33 k_r).symm.trans h0_) d_c,hbl_,Nat.le_trans SZ.out hg_.size,fun k_ a1_ a2_ a3_ a4_ a5_=>(hg_.block k_ (Nat.lt_of_lt_of_le a1_ SZ.out) (by simp)).trans (KP.out k_ a1_ a2_ a3_ a4_ a5_),fun h0_=>Kd.R_grown (Q_R0 h0_) hg_ (fun _ _=>by simp),fun h0_=>Kd.R_grown (Q_R1 h0_) hg_ (fun _ _=>by simp),fun _=>Kd.R_grown R3.out hg_ (fun _ _=>by simp),fun h0_ h1_=>Kd.R_grown (Q_L71 h0_ h1_) hg_ (fun _ _=>by simp),fun h0_ h1_=>Kd.R_grown (Q_L81 h0_ h1_) hg_ (fun _ _=>by simp),fun _ _=>ho_,fun h0_ _=>absurd ((hoff 26 k_r).symm.trans h0_) d_c,fun h0_=>Kd.R_grown (Q_U72 h0_) hg_ (fun _ _=>by simp),fun h0_=>Kd.R_grown (Q_U82 h0_) hg_ (fun _ _=>by simp),fun h0_=>absurd ((hoff 27 k_r).symm.trans h0_) d_c,fun h0_=>absurd ((hoff 27 k_r).symm.trans h0_) d_c⟩
       refine steps_cons ?_ ?_
       ·rintro b a w' ⟨l71,l81,l91,l94,u72,u82,u95,x0,x1,x3,ha,Q_BX,Q_E0,Q_E1,Q_E3,Q_T0,Q_T1,Q_T3,Q_BL,Q_SZ,Q_KP,Q_R0,Q_R1,Q_R3,Q_L71,Q_L81,Q_L91,Q_L94,Q_U72,Q_U82,Q_U95,Q_DD⟩ hb_ hon hoff
        refine ⟨_,rfl,fun K hK=>?_⟩
        have e91:a.tmps[91]? = some (l91):=by rw [ha];exact putSel_on (e:=(23,91,l91)) 14 rfl rfl (hon 23 k_r) rfl
        replace ha:=am ha
        have BX:=am Q_BX
        have E0:=am (Q_E0 (hoff 29 k_r))
        have E1:=am (Q_E1 (hoff 31 k_r))
        have E3:=am (Q_E3 (hoff 33 k_r))
        have BL:=am Q_BL
        have SZ:=am Q_SZ
        have KP:=am Q_KP
        have R3:=am (Q_R3 (hoff 27 k_r))
        have L91:=am (Q_L91 (hon 23 k_r) hb_)
        have hcv_:=own_string (P:=Tryz.prog) Tryz.underlying63 Tryz.underlying5 Tryz.underlying9 (Kd.own_of_R L91.out)
        rw [hsd_] at hcv_
        obtain ⟨Ab_,cb_,hb2_⟩:=Kd.R_slice L91.out
        rw [hb2_] at hcv_ e91
        replace hcv_:(convert 63 9 (.slice Ab_ 1 cb_)).run Tryz.prog w' = .ok (.string sd) w':=hcv_
        replace e91:a.tmps[91]? = some (.slice Ab_ 1 cb_):=e91
        refine value_ (w1:=w') (v:=.string sd) (by rfl) rfl ?_ ?_
        ·go_simp
         (try simp only [i64_w])
         try rfl
        refine hK.out _ _ ⟨l71,l81,l91,l94,u72,u82,u95,x0,x1,x3,(by rw [ha.out];exact putSel_upk 15 hb_ rfl rfl rfl),Q_BX,Q_E0,Q_E1,Q_E3,fun h0_=>absurd ((hoff 29 k_r).symm.trans h0_) d_c,fun h0_=>absurd ((hoff 31 k_r).symm.trans h0_) d_c,fun h0_=>absurd ((hoff 33 k_r).symm.trans h0_) d_c,Q_BL,Q_SZ,Q_KP,Q_R0,Q_R1,Q_R3,Q_L71,Q_L81,fun _ h1_=>absurd ((up_self b 24).symm.trans h1_) d_c,fun h0_ _=>absurd ((hoff 26 k_r).symm.trans h0_) d_c,Q_U72,Q_U82,fun h0_=>absurd ((hoff 27 k_r).symm.trans h0_) d_c,fun h0_=>absurd ((hoff 27 k_r).symm.trans h0_) d_c⟩
       refine steps_cons ?_ ?_
       ·rintro b a w' ⟨l71,l81,l91,l94,u72,u82,u95,x0,x1,x3,ha,Q_BX,Q_E0,Q_E1,Q_E3,Q_T0,Q_T1,Q_T3,Q_BL,Q_SZ,Q_KP,Q_R0,Q_R1,Q_R3,Q_L71,Q_L81,Q_L91,Q_L94,Q_U72,Q_U82,Q_U95,Q_DD⟩ hb_ hon hoff
        refine ⟨_,rfl,fun K hK=>?_⟩
        have e89:a.tmps[89]? = some (.string wk):=by rw [ha];exact putSel_on (e:=(21,89,.string wk)) 13 rfl rfl (hon 21 k_r) rfl
        have e92:a.tmps[92]? = some (.string sd):=by rw [ha];exact putSel_on (e:=(24,92,.string sd)) 15 rfl rfl (hon 24 k_r) rfl
        replace ha:=am ha
        have BX:=am Q_BX
        have E0:=am (Q_E0 (hoff 29 k_r))
        have E1:=am (Q_E1 (hoff 31 k_r))
        have E3:=am (Q_E3 (hoff 33 k_r))
        have BL:=am Q_BL
        have SZ:=am Q_SZ
        have KP:=am Q_KP
        have R3:=am (Q_R3 (hoff 27 k_r))
        refine value_ (w1:=w') (v:=.string (wk ++ sd)) (by rfl) rfl ?_ ?_
        ·go_simp
         (try simp only [i64_w])
         try rfl
        refine hK.out _ _ ⟨l71,l81,l91,l94,u72,u82,u95,x0,x1,x3,(by rw [ha.out];exact putSel_upk 16 hb_ rfl rfl rfl),Q_BX,Q_E0,Q_E1,Q_E3,fun h0_=>absurd ((hoff 29 k_r).symm.trans h0_) d_c,fun h0_=>absurd ((hoff 31 k_r).symm.trans h0_) d_c,fun h0_=>absurd ((hoff 33 k_r).symm.trans h0_) d_c,Q_BL,Q_SZ,Q_KP,Q_R0,Q_R1,Q_R3,Q_L71,Q_L81,fun _ h1_=>absurd ((hon 24 k_r).symm.trans h1_) d_c,fun h0_ _=>absurd ((hoff 26 k_r).symm.trans h0_) d_c,Q_U72,Q_U82,fun h0_=>absurd ((hoff 27 k_r).symm.trans h0_) d_c,fun h0_=>absurd ((hoff 27 k_r).symm.trans h0_) d_c⟩
       refine steps_cons ?_ ?_
       ·rintro b a w' ⟨l71,l81,l91,l94,u72,u82,u95,x0,x1,x3,ha,Q_BX,Q_E0,Q_E1,Q_E3,Q_T0,Q_T1,Q_T3,Q_BL,Q_SZ,Q_KP,Q_R0,Q_R1,Q_R3,Q_L71,Q_L81,Q_L91,Q_L94,Q_U72,Q_U82,Q_U95,Q_DD⟩ hb_ hon hoff
        refine ⟨_,rfl,fun K hK=>?_⟩
        have e93:a.tmps[93]? = some (.string (wk ++ sd)):=by rw [ha];exact putSel_on (e:=(25,93,.string (wk ++ sd))) 16 rfl rfl (hon 25 k_r) rfl
        replace ha:=am ha
        have BX:=am Q_BX
        have E0:=am (Q_E0 (hoff 29 k_r))
        have E1:=am (Q_E1 (hoff 31 k_r))
        have E3:=am (Q_E3 (hoff 33 k_r))
        have BL:=am Q_BL
        have SZ:=am Q_SZ
        have KP:=am Q_KP
        have R3:=am (Q_R3 (hoff 27 k_r))
        refine Kd.R_lit_step Kd.string w.heap.size 9 (by rfl) (N:=94) rfl (xs:=[wk ++ sd]) (inner:=[.string (wk ++ sd)]) (ok:=fun k_=>N0 ≤ k_) (okp:=fun k_=>N0 ≤ k_) ?hr ?hp (fun _ h_=>h_) SZ.out BL.out (below_size BL.out) (by simp) ?_
        (case hr=>first | (go_simp;done) | (go_simp;rfl))
        (case hp=>exact (Reps.one (show Kd.M Kd.string _ _ _ (wk ++ sd) [.string (wk ++ sd)] from rfl) (Reps.none _ _)))
        intro nl_ w1 ho_ hbl_ hg_ hn_
        refine hK.out _ _ ⟨l71,l81,l91,nl_,u72,u82,u95,x0,x1,x3,(by rw [ha.out];exact putSel_upk 17 hb_ rfl rfl rfl),blk_grown BX.out hg_ (by simp),Q_E0,Q_E1,Q_E3,fun h0_=>absurd ((hoff 29 k_r).symm.trans h0_) d_c,fun h0_=>absurd ((hoff 31 k_r).symm.trans h0_) d_c,fun h0_=>absurd ((hoff 33 k_r).symm.trans h0_) d_c,hbl_,Nat.le_trans SZ.out hg_.size,fun k_ a1_ a2_ a3_ a4_ a5_=>(hg_.block k_ (Nat.lt_of_lt_of_le a1_ SZ.out) (by simp)).trans (KP.out k_ a1_ a2_ a3_ a4_ a5_),fun h0_=>Kd.R_grown (Q_R0 h0_) hg_ (fun _ _=>by simp),fun h0_=>Kd.R_grown (Q_R1 h0_) hg_ (fun _ _=>by simp),fun _=>Kd.R_grown R3.out hg_ (fun _ _=>by simp),fun h0_ h1_=>Kd.R_grown (Q_L71 h0_ h1_) hg_ (fun _ _=>by simp),fun h0_ h1_=>Kd.R_grown (Q_L81 h0_ h1_) hg_ (fun _ _=>by simp),fun _ h1_=>absurd ((hon 24 k_r).symm.trans h1_) d_c,fun _ _=>ho_,fun h0_=>Kd.R_grown (Q_U72 h0_) hg_ (fun _ _=>by simp),fun h0_=>Kd.R_grown (Q_U82 h0_) hg_ (fun _ _=>by simp),fun h0_=>absurd ((hoff 27 k_r).symm.trans h0_) d_c,fun h0_=>absurd ((hoff 27 k_r).symm.trans h0_) d_c⟩
       refine steps_cons ?_ ?_
       ·rintro b a w' ⟨l71,l81,l91,l94,u72,u82,u95,x0,x1,x3,ha,Q_BX,Q_E0,Q_E1,Q_E3,Q_T0,Q_T1,Q_T3,Q_BL,Q_SZ,Q_KP,Q_R0,Q_R1,Q_R3,Q_L71,Q_L81,Q_L91,Q_L94,Q_U72,Q_U82,Q_U95,Q_DD⟩ hb_ hon hoff
        refine ⟨_,rfl,fun K hK=>?_⟩
        have e84:a.tmps[84]? = some ((.slice (some ⟨gu3,0,none⟩) s'.T.length cu3)):=by rw [ha];exact putSel_on (e:=(16,84,(.slice (some ⟨gu3,0,none⟩) s'.T.length cu3))) 10 rfl rfl (hon 16 k_r) rfl
        have e94:a.tmps[94]? = some (l94):=by rw [ha];exact putSel_on (e:=(26,94,l94)) 17 rfl rfl (hon 26 k_r) rfl
        replace ha:=am ha
        have BX:=am Q_BX
        have E0:=am (Q_E0 (hoff 29 k_r))
        have E1:=am (Q_E1 (hoff 31 k_r))
        have E3:=am (Q_E3 (hoff 33 k_r))
        have BL:=am Q_BL
        have SZ:=am Q_SZ
        have KP:=am Q_KP
        have R3:=am (Q_R3 hb_)
        have L94:=am (Q_L94 (hon 26 k_r) hb_)
        have U72:=am (Q_U72 (hon 4 k_r))
        have U82:=am (Q_U82 (hon 14 k_r))
        obtain ⟨A_,c_,hl_⟩:=Kd.R_slice L94.out
        have hC_:=L94.out
        rw [hl_] at hC_ e94
        refine Kd.R_append_rows_step Kd.string (w0:=w) w.heap.size (by rfl) (.tmp 84) (.tmp 94) 35 9 (.string ⟨#[]⟩) 16 rfl Tryz.underlying35 info9 rfl d_c o_m (.slice (some ⟨gu3,0,none⟩) s'.T.length cu3) LW [wk ++ sd] A_ 1 c_ (fun k_=>k_ = gu3 ∨ N0 ≤ k_) (fun _=>False) (eval_of e84) (eval_of e94) ?aO (Kd.R_reads' hC_).2.2 (fun _ _ h_=>h_) (fun _ h_=>h_.elim) ?aF BL.out (below_size BL.out) ?aL ?_
        (case aO=>exact Kd.R_mono R3.out (fun _ h_=>Or.inl h_))
        (case aF=>exact fun k_ h_=>Or.inr (Nat.le_trans SZ.out h_))
        (case aL=>rw [hLW];omega)
        intro nu_ w1 ho_ hbl_ hg_ hat_
        replace hg_:w'.grownBy w1 (some gu3):=hg_
        refine hK.out _ _ ⟨l71,l81,l91,l94,u72,u82,nu_,x0,x1,x3,(by rw [ha.out];exact putSel_upk 18 hb_ rfl rfl rfl),blk_grown BX.out hg_ (fun e_=>by injection e_ with e_;omega),Q_E0,Q_E1,Q_E3,fun h0_=>absurd ((hoff 29 k_r).symm.trans h0_) d_c,fun h0_=>absurd ((hoff 31 k_r).symm.trans h0_) d_c,fun h0_=>absurd ((hoff 33 k_r).symm.trans h0_) d_c,hbl_,Nat.le_trans SZ.out hg_.size,fun k_ a1_ a2_ a3_ a4_ a5_=>(hg_.block k_ (Nat.lt_of_lt_of_le a1_ SZ.out) (fun e_=>by injection e_ with e_;omega)).trans (KP.out k_ a1_ a2_ a3_ a4_ a5_),fun h0_=>absurd ((hon 4 k_r).symm.trans h0_) d_c,fun h0_=>absurd ((hon 14 k_r).symm.trans h0_) d_c,fun h0_=>absurd ((up_self b 27).symm.trans h0_) d_c,fun _ h1_=>absurd ((hon 4 k_r).symm.trans h1_) d_c,fun _ h1_=>absurd ((hon 14 k_r).symm.trans h1_) d_c,fun _ h1_=>absurd ((hon 24 k_r).symm.trans h1_) d_c,fun _ h1_=>absurd ((up_self b 27).symm.trans h1_) d_c,fun _=>Kd.R_grown U72.out hg_ (fun k_ h_ e_=>by injection e_ with e_;subst e_;omega),fun _=>Kd.R_grown U82.out hg_ (fun k_ h_ e_=>by injection e_ with e_;subst e_;omega),fun _=>ho_,fun _=>fun k_ h_ e_=>by
    have q1_:=U72.out.1 k_ h_
    have q2_:=own_lt U72.out k_ h_
    rcases hat_ with q_ | ⟨b_,q_,l_⟩
    ·rw [q_] at e_
     have:=Option.some.inj (show some k_ = some gu3 from e_)
     have:=SZ.out
     omega
    ·rw [q_] at e_
     have:=Option.some.inj e_
     omega⟩
       refine steps_cons ?_ ?_
       ·rintro b a w' ⟨l71,l81,l91,l94,u72,u82,u95,x0,x1,x3,ha,Q_BX,Q_E0,Q_E1,Q_E3,Q_T0,Q_T1,Q_T3,Q_BL,Q_SZ,Q_KP,Q_R0,Q_R1,Q_R3,Q_L71,Q_L81,Q_L91,Q_L94,Q_U72,Q_U82,Q_U95,Q_DD⟩ hb_ hon hoff
        refine ⟨_,rfl,fun K hK=>?_⟩
        have e4:a.tmps[4]? = some (.pointer (some ⟨b4,0,none⟩)):=by rw [ha];exact (putSel_off rfl).trans rfl
        replace ha:=am ha
        have BX:=am Q_BX
        have E0:=am (Q_E0 (hoff 29 k_r))
        have E1:=am (Q_E1 (hoff 31 k_r))
        have E3:=am (Q_E3 (hoff 33 k_r))
        have BL:=am Q_BL
        have SZ:=am Q_SZ
        have KP:=am Q_KP
        have U72:=am (Q_U72 (hon 4 k_r))
        refine value_ (w1:=w') (v:=.pointer (some ⟨b4,0,none⟩)) (by rfl) rfl ?_ ?_
        ·go_simp
         (try simp only [i64_w])
         try rfl
        refine hK.out _ _ ⟨l71,l81,l91,l94,u72,u82,u95,x0,x1,x3,(by rw [ha.out];exact putSel_upk 19 hb_ rfl rfl rfl),Q_BX,Q_E0,Q_E1,Q_E3,fun h0_=>absurd ((hoff 29 k_r).symm.trans h0_) d_c,fun h0_=>absurd ((hoff 31 k_r).symm.trans h0_) d_c,fun h0_=>absurd ((hoff 33 k_r).symm.trans h0_) d_c,Q_BL,Q_SZ,Q_KP,fun h0_=>absurd ((hon 4 k_r).symm.trans h0_) d_c,Q_R1,Q_R3,fun _ h1_=>absurd ((hon 4 k_r).symm.trans h1_) d_c,Q_L81,Q_L91,Q_L94,Q_U72,Q_U82,Q_U95,Q_DD⟩
       refine steps_cons ?_ ?_
       ·rintro b a w' ⟨l71,l81,l91,l94,u72,u82,u95,x0,x1,x3,ha,Q_BX,Q_E0,Q_E1,Q_E3,Q_T0,Q_T1,Q_T3,Q_BL,Q_SZ,Q_KP,Q_R0,Q_R1,Q_R3,Q_L71,Q_L81,Q_L91,Q_L94,Q_U72,Q_U82,Q_U95,Q_DD⟩ hb_ hon hoff
        refine ⟨_,rfl,fun K hK=>?_⟩
        have e96:a.tmps[96]? = some (.pointer (some ⟨b4,0,none⟩)):=by rw [ha];exact putSel_on (e:=(28,96,.pointer (some ⟨b4,0,none⟩))) 19 rfl rfl (hon 28 k_r) rfl
        have e72:a.tmps[72]? = some (u72):=by rw [ha];exact putSel_on (e:=(4,72,u72)) 2 rfl rfl (hon 4 k_r) rfl
        replace ha:=am ha
        have BX:=am Q_BX
        have E0:=am (Q_E0 hb_)
        have E1:=am (Q_E1 (hoff 31 k_r))
        have E3:=am (Q_E3 (hoff 33 k_r))
        have BL:=am Q_BL
        have SZ:=am Q_SZ
        have KP:=am Q_KP
        have U72:=am (Q_U72 (hon 4 k_r))
        have U82:=am (Q_U82 (hon 14 k_r))
        have U95:=am (Q_U95 (hon 27 k_r))
        have DD:=am (Q_DD (hon 27 k_r))
        obtain ⟨A_,c_,hl_⟩:=Kd.R_slice U72.out
        subst hl_
        have hc_:w'.cell? ⟨b4,0,none⟩ = some x0:=(blk_cell BX.out 0).trans rfl
        have hf_:=blk_frozen BX.out 0
        refine skip_ (w1:=w'.setCell ⟨b4,0,none⟩ (.slice A_ (LT ++ [tx1]).length c_)) (by rfl) rfl ?_ ?_
        ·first | (go_simp;done) | (go_simp;rfl)
        refine hK.out _ _ ⟨l71,l81,l91,l94,(.slice A_ (LT ++ [tx1]).length c_),u82,u95,(.slice A_ (LT ++ [tx1]).length c_),x1,x3,(by rw [ha.out];exact putSel_none (v:=undef) rfl),(blk_set BX.out 0 _).trans rfl,fun h0_=>absurd ((up_self b 29).symm.trans h0_) d_c,Q_E1,Q_E3,fun _=>rfl,fun h0_=>absurd ((hoff 31 k_r).symm.trans h0_) d_c,fun h0_=>absurd ((hoff 33 k_r).symm.trans h0_) d_c,BL.out.setCell (p:=⟨b4,0,none⟩) h4w _,Nat.le_trans SZ.out ((Below.refl 0 w').setCell (p:=⟨b4,0,none⟩) (Nat.zero_le _) _).size,fun k_ a1_ a2_ a3_ a4_ a5_=>(Below.heap_setCell _ _ _ k_ a5_).trans (KP.out k_ a1_ a2_ a3_ a4_ a5_),fun h0_=>absurd ((hon 4 k_r).symm.trans h0_) d_c,fun h0_=>absurd ((hon 14 k_r).symm.trans h0_) d_c,fun h0_=>absurd ((hon 27 k_r).symm.trans h0_) d_c,fun _ h1_=>absurd ((hon 4 k_r).symm.trans h1_) d_c,fun _ h1_=>absurd ((hon 14 k_r).symm.trans h1_) d_c,fun _ h1_=>absurd ((hon 24 k_r).symm.trans h1_) d_c,fun _ h1_=>absurd ((hon 27 k_r).symm.trans h1_) d_c,fun _=>Kd.R_far (p:=⟨b4,0,none⟩) U72.out (fun k_ h_ e_=>by simp only at e_;subst e_;omega) _,fun _=>Kd.R_far (p:=⟨b4,0,none⟩) U82.out (fun k_ h_ e_=>by simp only at e_;subst e_;omega) _,fun _=>Kd.R_far (p:=⟨b4,0,none⟩) U95.out (fun k_ h_ e_=>by simp only at e_;subst e_;omega) _,Q_DD⟩
       refine steps_cons ?_ ?_
       ·rintro b a w' ⟨l71,l81,l91,l94,u72,u82,u95,x0,x1,x3,ha,Q_BX,Q_E0,Q_E1,Q_E3,Q_T0,Q_T1,Q_T3,Q_BL,Q_SZ,Q_KP,Q_R0,Q_R1,Q_R3,Q_L71,Q_L81,Q_L91,Q_L94,Q_U72,Q_U82,Q_U95,Q_DD⟩ hb_ hon hoff
        refine ⟨_,rfl,fun K hK=>?_⟩
        have e4:a.tmps[4]? = some (.pointer (some ⟨b4,0,none⟩)):=by rw [ha];exact (putSel_off rfl).trans rfl
        replace ha:=am ha
        have BX:=am Q_BX
        have E1:=am (Q_E1 (hoff 31 k_r))
        have E3:=am (Q_E3 (hoff 33 k_r))
        have T0:=am (Q_T0 (hon 29 k_r))
        have BL:=am Q_BL
        have SZ:=am Q_SZ
        have KP:=am Q_KP
        have U72:=am (Q_U72 (hon 4 k_r))
        have U82:=am (Q_U82 (hon 14 k_r))
        have U95:=am (Q_U95 (hon 27 k_r))
        have DD:=am (Q_DD (hon 27 k_r))
        refine value_ (w1:=w') (v:=.pointer (some ⟨b4,1,none⟩)) (by rfl) rfl ?_ ?_
        ·go_simp
         (try simp only [i64_w])
         try rfl
        refine hK.out _ _ ⟨l71,l81,l91,l94,u72,u82,u95,x0,x1,x3,(by rw [ha.out];exact putSel_upk 20 hb_ rfl rfl rfl),Q_BX,fun h0_=>absurd ((hon 29 k_r).symm.trans h0_) d_c,Q_E1,Q_E3,Q_T0,fun h0_=>absurd ((hoff 31 k_r).symm.trans h0_) d_c,fun h0_=>absurd ((hoff 33 k_r).symm.trans h0_) d_c,Q_BL,Q_SZ,Q_KP,fun h0_=>absurd ((hon 4 k_r).symm.trans h0_) d_c,fun h0_=>absurd ((hon 14 k_r).symm.trans h0_) d_c,fun h0_=>absurd ((hon 27 k_r).symm.trans h0_) d_c,fun _ h1_=>absurd ((hon 4 k_r).symm.trans h1_) d_c,fun _ h1_=>absurd ((hon 14 k_r).symm.trans h1_) d_c,fun _ h1_=>absurd ((hon 24 k_r).symm.trans h1_) d_c,fun _ h1_=>absurd ((hon 27 k_r).symm.trans h1_) d_c,Q_U72,Q_U82,Q_U95,Q_DD⟩
       refine steps_cons ?_ ?_
       ·rintro b a w' ⟨l71,l81,l91,l94,u72,u82,u95,x0,x1,x3,ha,Q_BX,Q_E0,Q_E1,Q_E3,Q_T0,Q_T1,Q_T3,Q_BL,Q_SZ,Q_KP,Q_R0,Q_R1,Q_R3,Q_L71,Q_L81,Q_L91,Q_L94,Q_U72,Q_U82,Q_U95,Q_DD⟩ hb_ hon hoff
        refine ⟨_,rfl,fun K hK=>?_⟩
        have e97:a.tmps[97]? = some (.pointer (some ⟨b4,1,none⟩)):=by rw [ha];exact putSel_on (e:=(30,97,.pointer (some ⟨b4,1,none⟩))) 20 rfl rfl (hon 30 k_r) rfl
        have e82:a.tmps[82]? = some (u82):=by rw [ha];exact putSel_on (e:=(14,82,u82)) 9 rfl rfl (hon 14 k_r) rfl
        replace ha:=am ha
        have BX:=am Q_BX
        have E1:=am (Q_E1 hb_)
        have E3:=am (Q_E3 (hoff 33 k_r))
        have T0:=am (Q_T0 (hon 29 k_r))
        have BL:=am Q_BL
        have SZ:=am Q_SZ
        have KP:=am Q_KP
        have U72:=am (Q_U72 (hon 4 k_r))
        have U82:=am (Q_U82 (hon 14 k_r))
        have U95:=am (Q_U95 (hon 27 k_r))
        have DD:=am (Q_DD (hon 27 k_r))
        obtain ⟨A_,c_,hl_⟩:=Kd.R_slice U82.out
        subst hl_
        have hc_:w'.cell? ⟨b4,1,none⟩ = some x1:=(blk_cell BX.out 1).trans rfl
        have hf_:=blk_frozen BX.out 1
        refine skip_ (w1:=w'.setCell ⟨b4,1,none⟩ (.slice A_ (LF ++ [((fk + 1:Nat):Int)]).length c_)) (by rfl) rfl ?_ ?_
        ·first | (go_simp;done) | (go_simp;rfl)
        refine hK.out _ _ ⟨l71,l81,l91,l94,u72,(.slice A_ (LF ++ [((fk + 1:Nat):Int)]).length c_),u95,x0,(.slice A_ (LF ++ [((fk + 1:Nat):Int)]).length c_),x3,(by rw [ha.out];exact putSel_none (v:=undef) rfl),(blk_set BX.out 1 _).trans rfl,fun h0_=>absurd ((hon 29 k_r).symm.trans h0_) d_c,fun h0_=>absurd ((up_self b 31).symm.trans h0_) d_c,Q_E3,Q_T0,fun _=>rfl,fun h0_=>absurd ((hoff 33 k_r).symm.trans h0_) d_c,BL.out.setCell (p:=⟨b4,1,none⟩) h4w _,Nat.le_trans SZ.out ((Below.refl 0 w').setCell (p:=⟨b4,1,none⟩) (Nat.zero_le _) _).size,fun k_ a1_ a2_ a3_ a4_ a5_=>(Below.heap_setCell _ _ _ k_ a5_).trans (KP.out k_ a1_ a2_ a3_ a4_ a5_),fun h0_=>absurd ((hon 4 k_r).symm.trans h0_) d_c,fun h0_=>absurd ((hon 14 k_r).symm.trans h0_) d_c,fun h0_=>absurd ((hon 27 k_r).symm.trans h0_) d_c,fun _ h1_=>absurd ((hon 4 k_r).symm.trans h1_) d_c,fun _ h1_=>absurd ((hon 14 k_r).symm.trans h1_) d_c,fun _ h1_=>absurd ((hon 24 k_r).symm.trans h1_) d_c,fun _ h1_=>absurd ((hon 27 k_r).symm.trans h1_) d_c,fun _=>Kd.R_far (p:=⟨b4,1,none⟩) U72.out (fun k_ h_ e_=>by simp only at e_;subst e_;omega) _,fun _=>Kd.R_far (p:=⟨b4,1,none⟩) U82.out (fun k_ h_ e_=>by simp only at e_;subst e_;omega) _,fun _=>Kd.R_far (p:=⟨b4,1,none⟩) U95.out (fun k_ h_ e_=>by simp only at e_;subst e_;omega) _,Q_DD⟩
       refine steps_cons ?_ ?_
       ·rintro b a w' ⟨l71,l81,l91,l94,u72,u82,u95,x0,x1,x3,ha,Q_BX,Q_E0,Q_E1,Q_E3,Q_T0,Q_T1,Q_T3,Q_BL,Q_SZ,Q_KP,Q_R0,Q_R1,Q_R3,Q_L71,Q_L81,Q_L91,Q_L94,Q_U72,Q_U82,Q_U95,Q_DD⟩ hb_ hon hoff
        refine ⟨_,rfl,fun K hK=>?_⟩
        have e4:a.tmps[4]? = some (.pointer (some ⟨b4,0,none⟩)):=by rw [ha];exact (putSel_off rfl).trans rfl
        replace ha:=am ha
        have BX:=am Q_BX
        have E3:=am (Q_E3 (hoff 33 k_r))
        have T0:=am (Q_T0 (hon 29 k_r))
        have T1:=am (Q_T1 (hon 31 k_r))
        have BL:=am Q_BL
        have SZ:=am Q_SZ
        have KP:=am Q_KP
        have U72:=am (Q_U72 (hon 4 k_r))
        have U82:=am (Q_U82 (hon 14 k_r))
        have U95:=am (Q_U95 (hon 27 k_r))
        have DD:=am (Q_DD (hon 27 k_r))
        refine value_ (w1:=w') (v:=.pointer (some ⟨b4,3,none⟩)) (by rfl) rfl ?_ ?_
        ·go_simp
         (try simp only [i64_w])
         try rfl
        refine hK.out _ _ ⟨l71,l81,l91,l94,u72,u82,u95,x0,x1,x3,(by rw [ha.out];exact putSel_upk 21 hb_ rfl rfl rfl),Q_BX,fun h0_=>absurd ((hon 29 k_r).symm.trans h0_) d_c,fun h0_=>absurd ((hon 31 k_r).symm.trans h0_) d_c,Q_E3,Q_T0,Q_T1,fun h0_=>absurd ((hoff 33 k_r).symm.trans h0_) d_c,Q_BL,Q_SZ,Q_KP,fun h0_=>absurd ((hon 4 k_r).symm.trans h0_) d_c,fun h0_=>absurd ((hon 14 k_r).symm.trans h0_) d_c,fun h0_=>absurd ((hon 27 k_r).symm.trans h0_) d_c,fun _ h1_=>absurd ((hon 4 k_r).symm.trans h1_) d_c,fun _ h1_=>absurd ((hon 14 k_r).symm.trans h1_) d_c,fun _ h1_=>absurd ((hon 24 k_r).symm.trans h1_) d_c,fun _ h1_=>absurd ((hon 27 k_r).symm.trans h1_) d_c,Q_U72,Q_U82,Q_U95,Q_DD⟩
       refine steps_cons ?_ ?_
       ·rintro b a w' ⟨l71,l81,l91,l94,u72,u82,u95,x0,x1,x3,ha,Q_BX,Q_E0,Q_E1,Q_E3,Q_T0,Q_T1,Q_T3,Q_BL,Q_SZ,Q_KP,Q_R0,Q_R1,Q_R3,Q_L71,Q_L81,Q_L91,Q_L94,Q_U72,Q_U82,Q_U95,Q_DD⟩ hb_ hon hoff
        refine ⟨_,rfl,fun K hK=>?_⟩
        have e98:a.tmps[98]? = some (.pointer (some ⟨b4,3,none⟩)):=by rw [ha];exact putSel_on (e:=(32,98,.pointer (some ⟨b4,3,none⟩))) 21 rfl rfl (hon 32 k_r) rfl
        have e95:a.tmps[95]? = some (u95):=by rw [ha];exact putSel_on (e:=(27,95,u95)) 18 rfl rfl (hon 27 k_r) rfl
        replace ha:=am ha
        have BX:=am Q_BX
        have E3:=am (Q_E3 hb_)
        have T0:=am (Q_T0 (hon 29 k_r))
        have T1:=am (Q_T1 (hon 31 k_r))
        have BL:=am Q_BL
        have SZ:=am Q_SZ
        have KP:=am Q_KP
        have U72:=am (Q_U72 (hon 4 k_r))
        have U82:=am (Q_U82 (hon 14 k_r))
        have U95:=am (Q_U95 (hon 27 k_r))
        have DD:=am (Q_DD (hon 27 k_r))
        obtain ⟨A_,c_,hl_⟩:=Kd.R_slice U95.out
        subst hl_
        have hc_:w'.cell? ⟨b4,3,none⟩ = some x3:=(blk_cell BX.out 3).trans rfl
        have hf_:=blk_frozen BX.out 3
        refine skip_ (w1:=w'.setCell ⟨b4,3,none⟩ (.slice A_ (LW ++ [wk ++ sd]).length c_)) (by rfl) rfl ?_ ?_
        ·first | (go_simp;done) | (go_simp;rfl)
        refine hK.out _ _ ⟨l71,l81,l91,l94,u72,u82,(.slice A_ (LW ++ [wk ++ sd]).length c_),x0,x1,(.slice A_ (LW ++ [wk ++ sd]).length c_),(by rw [ha.out];exact putSel_none (v:=undef) rfl),(blk_set BX.out 3 _).trans rfl,fun h0_=>absurd ((hon 29 k_r).symm.trans h0_) d_c,fun h0_=>absurd ((hon 31 k_r).symm.trans h0_) d_c,fun h0_=>absurd ((up_self b 33).symm.trans h0_) d_c,Q_T0,Q_T1,fun _=>rfl,BL.out.setCell (p:=⟨b4,3,none⟩) h4w _,Nat.le_trans SZ.out ((Below.refl 0 w').setCell (p:=⟨b4,3,none⟩) (Nat.zero_le _) _).size,fun k_ a1_ a2_ a3_ a4_ a5_=>(Below.heap_setCell _ _ _ k_ a5_).trans (KP.out k_ a1_ a2_ a3_ a4_ a5_),fun h0_=>absurd ((hon 4 k_r).symm.trans h0_) d_c,fun h0_=>absurd ((hon 14 k_r).symm.trans h0_) d_c,fun h0_=>absurd ((hon 27 k_r).symm.trans h0_) d_c,fun _ h1_=>absurd ((hon 4 k_r).symm.trans h1_) d_c,fun _ h1_=>absurd ((hon 14 k_r).symm.trans h1_) d_c,fun _ h1_=>absurd ((hon 24 k_r).symm.trans h1_) d_c,fun _ h1_=>absurd ((hon 27 k_r).symm.trans h1_) d_c,fun _=>Kd.R_far (p:=⟨b4,3,none⟩) U72.out (fun k_ h_ e_=>by simp only at e_;subst e_;omega) _,fun _=>Kd.R_far (p:=⟨b4,3,none⟩) U82.out (fun k_ h_ e_=>by simp only at e_;subst e_;omega) _,fun _=>Kd.R_far (p:=⟨b4,3,none⟩) U95.out (fun k_ h_ e_=>by simp only at e_;subst e_;omega) _,Q_DD⟩
       exact steps_nil
      ·rintro b a w' hall ⟨l71,l81,l91,l94,u72,u82,u95,x0,x1,x3,ha,Q_BX,Q_E0,Q_E1,Q_E3,Q_T0,Q_T1,Q_T3,Q_BL,Q_SZ,Q_KP,Q_R0,Q_R1,Q_R3,Q_L71,Q_L81,Q_L91,Q_L94,Q_U72,Q_U82,Q_U95,Q_DD⟩
       clear BL BX E0 E1 E3 KP R0 R1 R3 SZ
       have hb1_:=hall 1 k_r
       have hb3_:=hall 3 k_r
       have hb4_:=hall 4 k_r
       have hb6_:=hall 6 k_r
       have hb8_:=hall 8 k_r
       have hb10_:=hall 10 k_r
       have hb11_:=hall 11 k_r
       have hb12_:=hall 12 k_r
       have hb13_:=hall 13 k_r
       have hb14_:=hall 14 k_r
       have hb16_:=hall 16 k_r
       have hb18_:=hall 18 k_r
       have hb20_:=hall 20 k_r
       have hb21_:=hall 21 k_r
       have hb23_:=hall 23 k_r
       have hb24_:=hall 24 k_r
       have hb25_:=hall 25 k_r
       have hb26_:=hall 26 k_r
       have hb27_:=hall 27 k_r
       have hb28_:=hall 28 k_r
       have hb29_:=hall 29 k_r
       have hb30_:=hall 30 k_r
       have hb31_:=hall 31 k_r
       have hb32_:=hall 32 k_r
       have hb33_:=hall 33 k_r
       subst ha
       simp only [putSel,hb1_,hb3_,hb4_,hb6_,hb8_,hb10_,hb11_,hb12_,hb13_,hb14_,hb16_,hb18_,hb20_,hb21_,hb23_,hb24_,hb25_,hb26_,hb27_,hb28_,hb29_,hb30_,hb31_,hb32_,hb33_,if_true,Act.put,List.setIfInBounds_toArray,List.set_cons_zero,List.set_cons_succ]
       have BX:=am Q_BX
       clear Q_BX Q_E0 Q_E1 Q_E3
       have T0:=am (Q_T0 hb29_)
       clear Q_T0
       have T1:=am (Q_T1 hb31_)
       clear Q_T1
       have T3:=am (Q_T3 hb33_)
       clear Q_T3
       have BL:=am Q_BL
       clear Q_BL
       have SZ:=am Q_SZ
       clear Q_SZ
       have KP:=am Q_KP
       clear Q_KP Q_R0 Q_R1 Q_R3 Q_L71 Q_L81 Q_L91 Q_L94
       have U72:=am (Q_U72 hb4_)
       clear Q_U72
       have U82:=am (Q_U82 hb14_)
       clear Q_U82
       have U95:=am (Q_U95 hb27_)
       clear Q_U95
       have DD:=am (Q_DD hb27_)
       clear Q_DD hall hb1_ hb3_ hb4_ hb6_ hb8_ hb10_ hb11_ hb12_ hb13_ hb14_ hb16_ hb18_ hb20_ hb21_ hb23_ hb24_ hb25_ hb26_ hb27_ hb28_ hb29_ hb30_ hb31_ hb32_ hb33_
       obtain rfl:=T0.out.symm
       obtain rfl:=T1.out.symm
       obtain rfl:=T3.out.symm
       have hN0:=HN0.out
       have hs23:=HG3.out.size
       have hheap:∀ x:Nat,x < w2.heap.size → x ≠ b5 → x ≠ gu0 → x ≠ gu1 → x ≠ gu3 → x ≠ b4 → w'.heap[x]? = w2.heap[x]?:=fun x hx q5 q0 q1 q3 q4=>by
        rw [KP.out x o_m q0 q1 q3 q4,HKP3.out x,HPL3.out x hx q5]
       have htyp:∀ x cells,w2.heap[x]? = some (.cells cells 3 (0,0)) ∨ w2.heap[x]? = some (.cells cells 40 (0,0)) → x < w2.heap.size → x ≠ gu1 → w'.heap[x]? = w2.heap[x]?:=fun x cells hc hlt q1=>by
        refine hheap x hlt ?_ ?_ q1 ?_ ?_
        ·rcases hc with hc | hc <;> exact (fun e=>mapK_ne HMAP.out hc e.symm)
        ·rintro rfl;rw [HCEL0.out] at hc;rcases hc with hc | hc <;> (injection hc with hc;injection hc with _ hc;cases hc)
        ·rintro rfl;rw [HCEL3.out] at hc;rcases hc with hc | hc <;> (injection hc with hc;injection hc with _ hc;cases hc)
        ·rintro rfl;rw [HA2.out.blk] at hc;rcases hc with hc | hc <;> (injection hc with hc;injection hc with _ hc;cases hc)
       have hl3:(placesD (rT gw gh (pushD s' k d c1'))) = (placesD (rT gw gh s')).put (.string tx1.data.toList) (.lit (.int .i64 ((s'.T.length:Nat):Int))):=by
        rw [show rT gw gh (pushD s' k d c1') = rT gw gh s' ++ [tx1] from by rw [← HTX1.out];exact List.map_append,placesD_snoc,rT_len];rfl
       have hA6:RchAt w w' gw gh cs (pushD s' k d c1') b4 b5 u72 u82 v2 u95:=by
        refine ⟨HOKP.out,BL.out,HA2.out.b4w,HA2.out.b5w,BX.out,⟨nm + 1,?_,?_⟩,?_,?_,?_,?_⟩
        ·show nm + 1 ≤ (s'.T ++ [c1']).length
         have:=HNM.out
         simp;omega
        ·rw [hl3]
         refine mapK_heap (w:=w3) HM3.out ?_
         rw [KP.out b5 (by have:=HM3.out.lt;omega) n50 n51 n53 (mapK_ne HMAP.out HA2.out.blk)]
         exact HMAP3.out
        ·rw [show rT gw gh (pushD s' k d c1') = LT ++ [tx1] from by rw [← HTX1.out,← HLTE.out];exact List.map_append]
         exact Kd.R_mono (Kd.R_tight rfl U72.out) (fun x hx=>DD.out x hx.symm)
        ·rw [show castsI (pushD s' k d c1').F = LF ++ [((fk + 1:Nat):Int)] from by rw [← HFKE.out,← HLFE.out];exact List.map_append]
         exact Kd.R_mono U82.out (fun _ _=>trivial)
        ·refine Kd.S_mono (Kd.S_step (Kd.S_bound H22.out) (fun x hx hlt=>?_)) (fun x hx e=>?_)
         ·obtain ⟨q,hq,cells,hc⟩:=hx.2.2.2
          have hq':q = 40 ∨ q = 3:=by simpa [Kd.E,Kd.slice,Kd.int,Kd.scalar] using hq
          rcases hq' with rfl | rfl
          ·exact htyp x cells (.inr hc) hlt (fun e=>hx.1.1 (congrArg some e))
          ·exact htyp x cells (.inl hc) hlt (fun e=>hx.1.1 (congrArg some e))
         ·rcases U82.out.1 x e.symm with h | h
          ·exact hx.1.1 (congrArg some h)
          ·have:=hx.2.2.1;omega
        ·rw [show rW (pushD s' k d c1') = LW ++ [wk ++ sd] from by rw [← HWKE.out,← HSDE.out,← HLWE.out,← txtW_snoc];exact List.map_append]
         exact Kd.R_mono (Kd.R_tight rfl U95.out) (fun x hx e=>DD.out x e.symm hx)
       have h26:Kd.S (Kd.slice 3 (Kd.int .i64)) 40 w' w.heap.size (fun x=>some x ≠ u82.ownBlock ∧ some x ≠ (Value.slice A8 d c8).ownBlock) v2 ((pushD s' k d c1').N.map castsI):=by
        refine Kd.S_mono (Kd.S_step (Kd.S_bound H22.out) (fun x hx hlt=>?_)) (fun x hx=>⟨fun e=>?_,hx.1.2⟩)
        ·obtain ⟨q,hq,cells,hc⟩:=hx.2.2.2
         have hq':q = 40 ∨ q = 3:=by simpa [Kd.E,Kd.slice,Kd.int,Kd.scalar] using hq
         rcases hq' with rfl | rfl
         ·exact htyp x cells (.inr hc) hlt (fun e=>hx.1.1 (congrArg some e))
         ·exact htyp x cells (.inl hc) hlt (fun e=>hx.1.1 (congrArg some e))
        ·rcases U82.out.1 x e.symm with h | h
         ·exact hx.1.1 (congrArg some h)
         ·have:=hx.2.2.1;omega
       have h86:Kd.R (Kd.int .i64) 3 w' w.heap.size (fun x=>some x ≠ u82.ownBlock) (.slice A8 d c8) (castsI P):=by
        refine Kd.R_mono (Kd.R_step (Kd.R_bound H82.out) (fun x hx hlt=>?_)) (fun x hx e=>?_)
        ·obtain ⟨q,hq,cells,hc⟩:=hx.2.2.2
         obtain rfl:q = 3:=List.mem_singleton.1 hq
         exact htyp x cells (.inl hc) hlt (fun e=>hx.1 (congrArg some e))
        ·rcases U82.out.1 x e.symm with h | h
         ·exact hx.1 (congrArg some h)
         ·have:=hx.2.2.1;omega
       have hK6:OthAt w5 w' KS b4 b5 u72 u82 u95 (.slice A8 d c8):=by
        refine ⟨fun x hx=>?_,fun x hx=>?_,fun x hx=>?_⟩
        ·obtain ⟨q0,q1,q3,q8,q4,q5⟩:=HK2.out.ne x hx
         rw [hheap x (HK2.out.lt x hx) q5 (fun e=>q0 (congrArg some e)) (fun e=>q1 (congrArg some e)) (fun e=>q3 (congrArg some e)) q4]
         exact HK2.out.keep x hx
        ·have:=HK2.out.lt x hx;have:=SZ.out;omega
        ·obtain ⟨q0,q1,q3,q8,q4,q5⟩:=HK2.out.ne x hx
         have hlx:=HK2.out.lt x hx
         refine ⟨fun e=>?_,fun e=>?_,fun e=>?_,q8,q4,q5⟩
         ·rcases U72.out.1 x e.symm with h | h
          ·exact q0 (congrArg some h)
          ·omega
         ·rcases U82.out.1 x e.symm with h | h
          ·exact q1 (congrArg some h)
          ·omega
         ·rcases U95.out.1 x e.symm with h | h
          ·exact q3 (congrArg some h)
          ·omega
       have HA6:=am hA6
       have H26:=am h26
       have H86:=am h86
       have HK6:=am hK6
       clear hA6 h26 h86 hK6 hl3 htyp hheap hs23 hN0 hwf hwks hklt hFK_ hWK_ hsd_ hfe
       have hw1:IntKind.i64.wrap ((d:Int) + 1) = ((d + 1:Nat):Int):=by rw [IntKind.wrap_i64];have:=HD4.out;omega
       go_wp2_with (first
        | ((with_reducible refine gate_builtin (b:=.append) (xs:=#[.tmp 99,.tmp 101]) rfl ?_);at_builtin;refine Kd.R_append (Kd.int .i64) (w0:=w) w.heap.size rfl (.tmp 99) (.tmp 101) 40 3 (.int .i64 0) 8 rfl Tryz.underlying40 info3 rfl d_c o_m (.slice A8 d c8) (castsI P) ((s'.T.length:Nat):Int) [.int .i64 ((s'.T.length:Nat):Int)] (fun k=>some k ≠ u82.ownBlock) (fun _=>False) rfl rfl ?aP (fun _ hk=>hk.elim) ?aF ?aO ?aB ?aS ?aL ?_;(case aP=>exact rfl);(case aB=>exact HA6.out.bel);(case aF=>exact (fun k hk e=>by have:=own_lt HA6.out.r1 k e.symm;omega));(case aO=>exact H86.out);(case aS=>exact HA6.out.bel.size);(case aL=>rw [castsI_length,HPL.out];have:=HD4.out;omega);intro v7 w7 ho7 hb7 hg7 hat7;have HO7':=am ho7;have HB7:=am hb7;have HG7:=am hg7;have HAT7:=am hat7;clear ho7 hb7 hg7 hat7))
       go_roundw
       case rel =>
        obtain ⟨n1,n2,n3⟩:=RchAt.next HA6.out H86.out H26.out HK6.out HB7.out HG7.out HAT7.out
        refine ⟨d + 1,pushD s' k d c1',P ++ [s'.T.length],_,_,_,_,by have:=HD4.out;omega,by first | rfl | simp,by rw [List.length_append,HPL.out];rfl,HSS,⟨HS'.out.1,?_,?_,?_,fun x hx=>?_⟩,⟨?_⟩,⟨n2⟩,⟨n3⟩,⟨n1⟩⟩
        ·show k < (s'.T ++ [c1']).length
         have:=HS'.out.2.1;simp;omega
        ·show s.T.length ≤ (s'.T ++ [c1']).length
         have:=HS'.out.2.2.1;simp;omega
        ·exact (getD_app HS'.out.2.1).trans HS'.out.2.2.2.1
        ·show x < (s'.T ++ [c1']).length
         rcases List.mem_append.1 hx with hx | hx
         ·have:=HS'.out.2.2.2.2 x hx;simp;omega
         ·rw [List.mem_singleton.1 hx];simp
        ·unfold castsI
         rw [List.map_append]
         exact HO7'.out
       case measure=>have:=HD4.out;simp [intOf];omega
end Go.Proofs.YtldhkbiomingbaaGreatDoor.F
