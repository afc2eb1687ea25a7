/- Parts of the proof of LeakTrue: what the functions that it reaches compute, and plain facts about that. -/
import Derived.Deep.LoopGhost
import Derived.Test.YtgfnpdfhdgenbaaDoorTao
set_option linter.unusedVariables false
set_option linter.unusedSimpArgs false
section
namespace Go.Proofs.YtgfnpdfhdgenbaaDoor.P
open Go.RowKit Go.Proofs.ae.bf Go.Proofs.ae.bY Go.Proofs.ae.cZ
attribute [local go_sem ↓] Go.wp_at_zero Go.wp_at_succ
def rO:Code→List Code
  | .loop c=>c :: rO c
  | .seq a b=>rO a++rO b
  | .block _ c=>rO c
  | .cond _ a b=>rO a++rO b
  | _=>[]
noncomputable def body4:Code:=((Tryd.f8.body.map rO).getD []).getD 3 .skip
set_option maxRecDepth 100000 in
set_option maxHeartbeats 3200000 in
theorem Lj (G a m:Nat) (fA:Option Addr) (eY:Nat) (bF:List ByteArray) (aZ:ByteArray) (bn:ByteArray) (gz:Option Addr) (fC:Nat) (aG:List (gY)) (w:World) (HR3:af (Kd.C uU w gz aG.length aG)) (rQ:aG.length≤1000) (hU:aG.all UI=true) (hm:aG.length+1=m) (hG:w.heap.size=G)
    (Q0:Exit→Act→World→Prop) (pb:Bool) (PZ:Tb) (c0 c1 c2 c4 c6 c7 c9 c10 c11 c12 c13 c14 c15 c16 c17 c18 c19 c20 c21 Bo c23 c24 c25 PG c27 c28 c29 c30 c31 c32 c33 c34 c35 c36 c37 EU ET c40 XE XD XC MG c45 c46 Ub XB c49 c50 c51 c52 c53 PE c55 c56 c60 Ua c62 c63 c64 c65 c66 c67 c68 c69 c70 c71 c72 c73 c74 c75 c76 c77 c78 c79 c80 c81 c82 c83 c84 c85 c86 c87 c88 c89 c90 c91 c92 c93:Value)
    (NP:∀ (u10 u59 u60 u61 u62 u63 u64 u65 u66 u67 u68 u69 u70 u71 u72 u73 u74 u75 u76 u77 u78 u79 u80 u81 u82 u83 u84 u85 u86 u87 u88 u89 u90 u91 u92:Value) (w':World),w'.heap[G+2]? = some (.cells #[.slice (some ⟨G+1,0,none⟩) a a] 28 (0,0))∧w'.heap[G]? = some (.cells #[.slice fA bF.length eY,.string aZ,.string bn,.slice gz aG.length fC] 25 (0,0))∧Below w.heap.size w w'∧sD w' (G+1) (G+3) a m PZ→Q0 (.exit 6) ⟨List.toArray (c0 :: c1 :: c2 :: .pointer (some ⟨G+2,0,none⟩) :: c4 :: .func (.func 15) #[] #[.pointer (some ⟨G+2,0,none⟩)] :: c6 :: c7 :: .bool pb :: c9 :: u10 :: c11 :: c12 :: c13 :: c14 :: c15 :: c16 :: c17 :: c18 :: c19 :: c20 :: c21 :: Bo :: c23 :: c24 :: c25 :: PG :: c27 :: c28 :: c29 :: c30 :: c31 :: c32 :: c33 :: c34 :: c35 :: c36 :: c37 :: EU :: ET :: c40 :: XE :: XD :: XC :: MG :: c45 :: c46 :: Ub :: XB :: c49 :: c50 :: c51 :: c52 :: c53 :: PE :: c55 :: c56 :: .slice gz aG.length fC :: .int .i64 (aG.length:Int) :: u59 :: u60 :: u61 :: u62 :: u63 :: u64 :: u65 :: u66 :: u67 :: u68 :: u69 :: u70 :: u71 :: u72 :: u73 :: u74 :: u75 :: u76 :: u77 :: u78 :: u79 :: u80 :: u81 :: u82 :: u83 :: u84 :: u85 :: u86 :: u87 :: u88 :: u89 :: u90 :: u91 :: u92 :: c93 :: []),[]⟩ w')
    (Y:Tb) (wr:World) (BT:wr.heap[G+2]? = some (.cells #[.slice (some ⟨G+1,0,none⟩) a a] 28 (0,0))) (BK:wr.heap[G]? = some (.cells #[.slice fA bF.length eY,.string aZ,.string bn,.slice gz aG.length fC] 25 (0,0))) (HB:Below w.heap.size w wr) (hM:sD wr (G+1) (G+3) a m Y) (hp:kM a m aG false Y=(pb,PZ)) :
    Code.wp Tryd.prog (Code.loop body4) Q0 ⟨List.toArray (c0 :: c1 :: c2 :: .pointer (some ⟨G+2,0,none⟩) :: c4 :: .func (.func 15) #[] #[.pointer (some ⟨G+2,0,none⟩)] :: c6 :: c7 :: .bool false :: c9 :: c10 :: c11 :: c12 :: c13 :: c14 :: c15 :: c16 :: c17 :: c18 :: c19 :: c20 :: c21 :: Bo :: c23 :: c24 :: c25 :: PG :: c27 :: c28 :: c29 :: c30 :: c31 :: c32 :: c33 :: c34 :: c35 :: c36 :: c37 :: EU :: ET :: c40 :: XE :: XD :: XC :: MG :: c45 :: c46 :: Ub :: XB :: c49 :: c50 :: c51 :: c52 :: c53 :: PE :: c55 :: c56 :: .slice gz aG.length fC :: .int .i64 (aG.length:Int) :: .int .i64 0 :: c60 :: Ua :: c62 :: c63 :: c64 :: c65 :: c66 :: c67 :: c68 :: c69 :: c70 :: c71 :: c72 :: c73 :: c74 :: c75 :: c76 :: c77 :: c78 :: c79 :: c80 :: c81 :: c82 :: c83 :: c84 :: c85 :: c86 :: c87 :: c88 :: c89 :: c90 :: c91 :: c92 :: c93 :: []),[]⟩ wr:=by
  have zl:=Tryd.underlying45
  conv =>
    arg 2
    arg 1
    whnf
  go_loopg [8,59] aG.length (fun kq bv iv wr=>∃ (i:Nat) (b:Bool) (Z:Tb),kq+i=aG.length∧iv=.int .i64 i∧bv=.bool b∧wr.heap[G+2]? = some (.cells #[.slice (some ⟨G+1,0,none⟩) a a] 28 (0,0))∧wr.heap[G]? = some (.cells #[.slice fA bF.length eY,.string aZ,.string bn,.slice gz aG.length fC] 25 (0,0))∧Below w.heap.size w wr∧sD wr (G+1) (G+3) a m Z∧kM a m (aG.drop i) b Z=(pb,PZ))
  case atStart=>exact ⟨0,false,Y,Nat.add_zero _,rfl,rfl,BT,BK,HB,hM,hp⟩
  case round =>
    clear BT BK HB hM hp
    obtain ⟨i,b,Y,hi,rfl,rfl,BT,BK,HB,hM,hp⟩:=hrel
    cases gk with
    | zero =>
      obtain rfl:i=aG.length:=by omega
      have hlt':decide ((aG.length:Int) < (aG.length:Int))=false:=decide_eq_false (by omega)
      rw [List.drop_length] at hp
      obtain ⟨rfl,rfl⟩:b=pb∧Y=PZ:=Prod.mk.inj hp
      clear hp hi
      have HX:=Lib.hid NP
      clear NP
      go_wp2
      exact HX.out _ _ _ _ _ _ _ _ _ _ _ _ _ _ _ _ _ _ _ _ _ _ _ _ _ _ _ _ _ _ _ _ _ _ _ _ ⟨BT,BK,HB,hM⟩
    | succ gk =>
    clear NP
    have hlt:i < aG.length:=by omega
    have hgi:gk+(i+1)=aG.length:=by omega
    clear hi
    obtain ⟨ad,eA,x0,x1,x2,x3,x4⟩:=oP HR3.out (i:Nat) (Int.natCast_nonneg i) (by omega)
    subst eA
    rw [Int.toNat_natCast] at x0 x1 x2 x3 x4
    replace x0:=(HB.cell (World.block_lt_of_cell? w _ x0)).trans x0
    replace x1:=(HB.cell (World.block_lt_of_cell? w _ x1)).trans x1
    replace x2:=(HB.cell (World.block_lt_of_cell? w _ x2)).trans x2
    replace x3:=(HB.cell (World.block_lt_of_cell? w _ x3)).trans x3
    replace x4:=(HB.cell (World.block_lt_of_cell? w _ x4)).trans x4
    obtain ⟨u1,u2,u3,P6⟩:=Np hU hlt
    rw [drop_cons aG i hlt] at hp
    have hlt':decide ((i:Int) < (aG.length:Int))=true:=decide_eq_true (by omega)
    have k0:(0≤(i:Int))=True:=eq_true (by omega)
    have k1:((i:Int) < (aG.length:Int))=True:=eq_true (by omega)
    have e2:wrap64 ((i:Int)+1)=((i+1:Nat):Int):=by
      unfold wrap64
      omega
    generalize aC aG (i:Nat)=x at *
    obtain ⟨o,f1,f2,f3,f4⟩:=x
    dsimp only at *
    obtain ⟨W,hW⟩:∃ W,wr.heap.size=W:=⟨_,rfl⟩
    have U2:G < W:=by rw [← hW];exact iC BK
    have hTW:G+2 < W:=by rw [← hW];exact iC BT
    have TN:∀ j,j < a→G+3+j < W:=fun j hj=>by rw [← hW];exact (hM.row j hj).lt
    rw [kM] at hp
    dsimp only at hp
    by_cases h5:o=7
    · subst h5
      by_cases hf:f1 < (a:Int)
      · have hf':decide (f1 < (a:Int))=true:=decide_eq_true hf
        obtain ⟨c,rfl⟩:=Int.eq_ofNat_of_zero_le u1
        have hc:c < a:=by omega
        by_cases hg:f2 < (a:Int)
        · rw [if_pos ⟨rfl,hf,hg⟩] at hp
          have hg':decide (f2 < (a:Int))=true:=decide_eq_true hg
          obtain ⟨d,rfl⟩:=Int.eq_ofNat_of_zero_le u3
          have hd:d < a:=by omega
          rw [Int.toNat_natCast,Int.toNat_natCast] at hp
          obtain ⟨wx,hwx⟩:∃ wx,wr.alloc (.cells #[.int .u8 7,.int .u8 ((c:Nat):Int),.int .u8 ((d:Nat):Int),.int .u8 f3,.int .i64 f4] 45)=wx:=⟨_,rfl⟩
          have bX:wx.heap[W]? = some (.cells #[.int .u8 7,.int .u8 ((c:Nat):Int),.int .u8 ((d:Nat):Int),.int .u8 f3,.int .i64 f4] 45 (0,0)):=by
            rw [← hwx,← hW]
            exact nY wr _
          have bT:wx.heap[G+2]? = some (.cells #[.slice (some ⟨G+1,0,none⟩) a a] 28 (0,0)):=by
            rw [← hwx]
            exact ah BT _
          have bK:wx.heap[G]? = some (.cells #[.slice fA bF.length eY,.string aZ,.string bn,.slice (some ad) aG.length fC] 25 (0,0)):=by
            rw [← hwx]
            exact ah BK _
          have hBx:Below w.heap.size w wx:=by
            rw [← hwx]
            exact aj HB _
          have Af:sD wx (G+1) (G+3) a m Y:=by
            rw [← hwx]
            exact hM.alloc _
          have y0:wx.cell? ⟨W,0,none⟩=some (.int .u8 7):=(aJ bX 0).trans rfl
          have y1:wx.cell? ⟨W,1,none⟩=some (.int .u8 ((c:Nat):Int)):=(aJ bX 1).trans rfl
          have y2:wx.cell? ⟨W,2,none⟩=some (.int .u8 ((d:Nat):Int)):=(aJ bX 2).trans rfl
          have y3:wx.cell? ⟨W,3,none⟩=some (.int .u8 f3):=(aJ bX 3).trans rfl
          have y4:wx.cell? ⟨W,4,none⟩=some (.int .i64 f4):=(aJ bX 4).trans rfl
          have yT:wx.cell? ⟨G+2,0,none⟩=some (.slice (some ⟨G+1,0,none⟩) a a):=(aJ bT 0).trans rfl
          clear BT BK HB hM
          have hti:=l9 (G+2) (G+1) a ((c:Nat):Int) u1 u2 wx yT
          rw [hf'] at hti
          have htj:=l9 (G+2) (G+1) a ((d:Nat):Int) u3 P6 wx yT
          rw [hg'] at htj
          have b0:(0≤((c:Nat):Int))=True:=eq_true (by omega)
          have b1:(((c:Nat):Int) < (a:Int))=True:=eq_true hf
          have d0:(0≤((d:Nat):Int))=True:=eq_true (by omega)
          have d1:(((d:Nat):Int) < (a:Int))=True:=eq_true hg
          have yO:wx.cell? ⟨G+1,c,none⟩=some (.slice (some ⟨G+3+c,0,none⟩) m m):=Af.out.cell hc
          have yP:wx.cell? ⟨G+1,d,none⟩=some (.slice (some ⟨G+3+d,0,none⟩) m m):=Af.out.cell hd
          have hmc:=Eu (G+1) (G+3) a m c d Y hc hd (by omega) wx.drew Af.drew
          have sX:W < wx.heap.size:=iC bX
          have sT:G+2 < wx.heap.size:=iC bT
          have sG:G < wx.heap.size:=iC bK
          have sO:G+1 < wx.heap.size:=by omega
          have hRc:=TN c hc
          have hgc:w.heap.size≤G+3+c:=by omega
          clear hf hg hlt U2 TN rQ
          go_wp2_with (first|(go_at_call 15;refine hti.mono ?_;rintro e w5 ⟨rfl,rfl⟩)|(go_at_call 15;refine htj.mono ?_;rintro e w5 ⟨rfl,rfl⟩))
          have hM6:=Af
          clear Af
          cases hmv:uZ Y c d m
          · rw [hmv] at hp hmc
            first|go_region_held3 (fun wx=>wx.cell? ⟨G+2,0,none⟩=some (.slice (some ⟨G+1,0,none⟩) a a)∧wx.cell? ⟨W,1,none⟩=some (.int .u8 ((c:Nat):Int))∧wx.cell? ⟨W,2,none⟩=some (.int .u8 ((d:Nat):Int))∧wx.cell? ⟨G+1,c,none⟩=some (.slice (some ⟨G+3+c,0,none⟩) m m)∧wx.cell? ⟨G+1,d,none⟩=some (.slice (some ⟨G+3+d,0,none⟩) m m)) (first|(go_keep;done)|exact ⟨q5 _ _ sT (by omega) yT,q5 _ _ sX (by omega) y1,q5 _ _ sX (by omega) y2,q5 _ _ sO (by omega) yO,q5 _ _ sO (by omega) yP⟩) ((go_at_call 16;refine hmc.mono ?_;rintro e w5 ⟨rfl,NJ,hM5⟩;have q5:∀ g j,g < wx.heap.size→g ≠ G+3+c→∀ {v},wx.cell? ⟨g,j,none⟩=some v→w5.cell? ⟨g,j,none⟩=some v:=fun g j hg hn v hv=>(World.cell?_of_block (w:=wx) (a:=⟨g,j,none⟩) (NJ.block g hg hn)).trans hv))|fail "region"
            have bT5:=(NJ.block _ sT (by omega)).trans bT
            have bK5:=(NJ.block _ sG (by omega)).trans bK
            have hB5:=NJ.below (oO hBx) hgc
            clear NJ q5 hmc hti htj
            go_wp2
            go_roundg gk
            case rel=>exact ⟨i+1,_,_,hgi,by rw [e2],rfl,bT5,bK5,hB5,hM5,hp⟩
            case measure=>omega
          · rw [hmv] at hp hmc
            refine wp_region_noPanic ?_
            refine wp_region_held_drew (S:=fun w'=>w'.cell? ⟨G+2,0,none⟩=some (.slice (some ⟨G+1,0,none⟩) a a)∧w'.cell? ⟨W,1,none⟩=some (.int .u8 ((c:Nat):Int))∧w'.cell? ⟨W,2,none⟩=some (.int .u8 ((d:Nat):Int))∧w'.cell? ⟨G+1,c,none⟩=some (.slice (some ⟨G+3+c,0,none⟩) m m)∧w'.cell? ⟨G+1,d,none⟩=some (.slice (some ⟨G+3+d,0,none⟩) m m)) (by kernel_rfl) ⟨yT,y1,y2,yO,yP⟩ (fun hHeld=>?_)
            skip
            refine wpAnyH_take (i:=0) (v:=?_) rfl (by kernel_rfl) (by kernel_rfl) (by kernel_rfl) (fun _ _ _ h=>h) (Or.inl ⟨by rfl,?_⟩) hHeld ?_
            rotate_left
            · intro w' hSw
              obtain ⟨q1,q2,q3,q4,q5⟩:=hSw
              go_simp
              try with_reducible rfl
            try simp only [Act.put,List.setIfInBounds_toArray,List.set_cons_zero,List.set_cons_succ]
            refine wpAnyH_take (i:=1) (v:=?_) rfl (by kernel_rfl) (by kernel_rfl) (by kernel_rfl) (fun _ _ _ h=>h) (Or.inl ⟨by rfl,?_⟩) hHeld ?_
            rotate_left
            · intro w' hSw
              obtain ⟨q1,q2,q3,q4,q5⟩:=hSw
              go_simp
              try with_reducible rfl
            try simp only [Act.put,List.setIfInBounds_toArray,List.set_cons_zero,List.set_cons_succ]
            refine wpAnyH_take (i:=2) (v:=?_) rfl (by kernel_rfl) (by kernel_rfl) (by kernel_rfl) (fun _ _ _ h=>h) (Or.inl ⟨by rfl,?_⟩) hHeld ?_
            rotate_left
            · intro w' hSw
              obtain ⟨q1,q2,q3,q4,q5⟩:=hSw
              go_simp
              try with_reducible rfl
            try simp only [Act.put,List.setIfInBounds_toArray,List.set_cons_zero,List.set_cons_succ]
            refine wpAnyH_take (i:=3) (v:=?_) rfl (by kernel_rfl) (by kernel_rfl) (by kernel_rfl) (fun _ _ _ h=>h) (Or.inl ⟨by rfl,?_⟩) hHeld ?_
            rotate_left
            · intro w' hSw
              obtain ⟨q1,q2,q3,q4,q5⟩:=hSw
              go_simp
              try with_reducible rfl
            try simp only [Act.put,List.setIfInBounds_toArray,List.set_cons_zero,List.set_cons_succ]
            refine wpAnyH_take (i:=4) (v:=?_) rfl (by kernel_rfl) (by kernel_rfl) (by kernel_rfl) (fun _ _ _ h=>h) (Or.inl ⟨by rfl,?_⟩) hHeld ?_
            rotate_left
            · intro w' hSw
              obtain ⟨q1,q2,q3,q4,q5⟩:=hSw
              go_simp
              try with_reducible rfl
            try simp only [Act.put,List.setIfInBounds_toArray,List.set_cons_zero,List.set_cons_succ]
            refine wpAnyH_take (i:=5) (v:=?_) rfl (by kernel_rfl) (by kernel_rfl) (by kernel_rfl) (fun _ _ _ h=>h) (Or.inl ⟨by rfl,?_⟩) hHeld ?_
            rotate_left
            · intro w' hSw
              obtain ⟨q1,q2,q3,q4,q5⟩:=hSw
              go_simp
              try with_reducible rfl
            try simp only [Act.put,List.setIfInBounds_toArray,List.set_cons_zero,List.set_cons_succ]
            refine wpAnyH_take (i:=6) (v:=?_) rfl (by kernel_rfl) (by kernel_rfl) (by kernel_rfl) (fun _ _ _ h=>h) (Or.inl ⟨by rfl,?_⟩) hHeld ?_
            rotate_left
            · intro w' hSw
              obtain ⟨q1,q2,q3,q4,q5⟩:=hSw
              go_simp
              try with_reducible rfl
            try simp only [Act.put,List.setIfInBounds_toArray,List.set_cons_zero,List.set_cons_succ]
            refine wpAnyH_take (i:=7) (v:=?_) rfl (by kernel_rfl) (by kernel_rfl) (by kernel_rfl) (fun _ _ _ h=>h) (Or.inl ⟨by rfl,?_⟩) hHeld ?_
            rotate_left
            · intro w' hSw
              obtain ⟨q1,q2,q3,q4,q5⟩:=hSw
              go_simp
              try with_reducible rfl
            try simp only [Act.put,List.setIfInBounds_toArray,List.set_cons_zero,List.set_cons_succ]
            refine wpAnyH_take (i:=8) (v:=?_) rfl (by kernel_rfl) (by kernel_rfl) (by kernel_rfl) (fun _ _ _ h=>h) (Or.inl ⟨by rfl,?_⟩) hHeld ?_
            rotate_left
            · intro w' hSw
              obtain ⟨q1,q2,q3,q4,q5⟩:=hSw
              go_simp
              try with_reducible rfl
            try simp only [Act.put,List.setIfInBounds_toArray,List.set_cons_zero,List.set_cons_succ]
            refine wpAnyH_take (i:=9) (v:=?_) rfl (by kernel_rfl) (by kernel_rfl) (by kernel_rfl) (fun _ _ _ h=>h) (Or.inl ⟨by rfl,?_⟩) hHeld ?_
            rotate_left
            · intro w' hSw
              obtain ⟨q1,q2,q3,q4,q5⟩:=hSw
              go_simp
              try with_reducible rfl
            try simp only [Act.put,List.setIfInBounds_toArray,List.set_cons_zero,List.set_cons_succ]
            refine wpAnyH_ready (rs:=[10]) (by kernel_rfl) (by simp) ?_
            refine AllReadyH.cons rfl (fun K hK=>?_) AllReadyH.nil
            go_simp
            refine hmc.mono ?_
            rintro e w5 ⟨rfl,NJ,hM5⟩
            have q5:∀ g j,g < wx.heap.size→g ≠ G+3+c→∀ {v},wx.cell? ⟨g,j,none⟩=some v→w5.cell? ⟨g,j,none⟩=some v:=fun g j hg hn v hv=>(World.cell?_of_block (w:=wx) (a:=⟨g,j,none⟩) (NJ.block g hg hn)).trans hv
            refine hK.out _ _ ⟨q5 _ _ sT (by omega) yT,q5 _ _ sX (by omega) y1,q5 _ _ sX (by omega) y2,q5 _ _ sO (by omega) yO,q5 _ _ sO (by omega) yP⟩ (fun hHeld=>?_)
            clear hK
            refine wpAnyH_take (i:=11) (v:=?_) rfl (by kernel_rfl) (by kernel_rfl) (by kernel_rfl) (fun _ _ _ h=>h) (Or.inl ⟨by rfl,?_⟩) hHeld ?_
            rotate_left
            · intro w' hSw
              obtain ⟨q1,q2,q3,q4,q5⟩:=hSw
              go_simp
              try with_reducible rfl
            try simp only [Act.put,List.setIfInBounds_toArray,List.set_cons_zero,List.set_cons_succ]
            refine wpAnyH_take (i:=12) (v:=undef) rfl (by kernel_rfl) (by kernel_rfl) (by kernel_rfl) (fun _ _ _ h=>h) (Or.inr ⟨by rfl,rfl⟩) hHeld ?_
            try simp only [Act.put,List.setIfInBounds_toArray,List.set_cons_zero,List.set_cons_succ]
            refine wpAnyH_take (i:=13) (v:=?_) rfl (by kernel_rfl) (by kernel_rfl) (by kernel_rfl) (fun _ _ _ h=>h) (Or.inl ⟨by rfl,?_⟩) hHeld ?_
            rotate_left
            · intro w' hSw
              obtain ⟨q1,q2,q3,q4,q5⟩:=hSw
              go_simp
              try with_reducible rfl
            try simp only [Act.put,List.setIfInBounds_toArray,List.set_cons_zero,List.set_cons_succ]
            refine wpAnyH_take (i:=14) (v:=?_) rfl (by kernel_rfl) (by kernel_rfl) (by kernel_rfl) (fun _ _ _ h=>h) (Or.inl ⟨by rfl,?_⟩) hHeld ?_
            rotate_left
            · intro w' hSw
              obtain ⟨q1,q2,q3,q4,q5⟩:=hSw
              go_simp
              try with_reducible rfl
            try simp only [Act.put,List.setIfInBounds_toArray,List.set_cons_zero,List.set_cons_succ]
            refine wpAnyH_done (by kernel_rfl) ?_ _
            refine NoPanic.normal ?_
            have bT5:=(NJ.block _ sT (by omega)).trans bT
            have bK5:=(NJ.block _ sG (by omega)).trans bK
            have hB5:=NJ.below (oO hBx) hgc
            clear NJ q5 hmc hti htj
            go_wp2
            go_roundg gk
            case rel=>exact ⟨i+1,_,_,hgi,by rw [e2],rfl,bT5,bK5,hB5,hM5,hp⟩
            case measure=>omega
        · rw [if_neg (fun h=>hg h.2.2)] at hp
          have hg':decide (f2 < (a:Int))=false:=decide_eq_false hg
          obtain ⟨wx,hwx⟩:∃ wx,wr.alloc (.cells #[.int .u8 7,.int .u8 ((c:Nat):Int),.int .u8 f2,.int .u8 f3,.int .i64 f4] 45)=wx:=⟨_,rfl⟩
          have bX:wx.heap[W]? = some (.cells #[.int .u8 7,.int .u8 ((c:Nat):Int),.int .u8 f2,.int .u8 f3,.int .i64 f4] 45 (0,0)):=by
            rw [← hwx,← hW]
            exact nY wr _
          have bT:wx.heap[G+2]? = some (.cells #[.slice (some ⟨G+1,0,none⟩) a a] 28 (0,0)):=by
            rw [← hwx]
            exact ah BT _
          have bK:wx.heap[G]? = some (.cells #[.slice fA bF.length eY,.string aZ,.string bn,.slice (some ad) aG.length fC] 25 (0,0)):=by
            rw [← hwx]
            exact ah BK _
          have hBx:Below w.heap.size w wx:=by
            rw [← hwx]
            exact aj HB _
          have Af:sD wx (G+1) (G+3) a m Y:=by
            rw [← hwx]
            exact hM.alloc _
          have y0:wx.cell? ⟨W,0,none⟩=some (.int .u8 7):=(aJ bX 0).trans rfl
          have y1:wx.cell? ⟨W,1,none⟩=some (.int .u8 ((c:Nat):Int)):=(aJ bX 1).trans rfl
          have y2:wx.cell? ⟨W,2,none⟩=some (.int .u8 f2):=(aJ bX 2).trans rfl
          have y3:wx.cell? ⟨W,3,none⟩=some (.int .u8 f3):=(aJ bX 3).trans rfl
          have y4:wx.cell? ⟨W,4,none⟩=some (.int .i64 f4):=(aJ bX 4).trans rfl
          have yT:wx.cell? ⟨G+2,0,none⟩=some (.slice (some ⟨G+1,0,none⟩) a a):=(aJ bT 0).trans rfl
          clear BT BK HB hM
          have hti:=l9 (G+2) (G+1) a ((c:Nat):Int) u1 u2 wx yT
          rw [hf'] at hti
          have htj:=l9 (G+2) (G+1) a f2 u3 P6 wx yT
          rw [hg'] at htj
          clear bX hf hg hc hG hlt hTW U2 TN rQ u1 u2 u3 P6
          go_wp2_with (first|(go_at_call 15;refine hti.mono ?_;rintro e w5 ⟨rfl,rfl⟩)|(go_at_call 15;refine htj.mono ?_;rintro e w5 ⟨rfl,rfl⟩))
          go_roundg gk
          case rel=>exact ⟨i+1,_,_,hgi,by rw [e2],rfl,bT,bK,hBx,Af,hp⟩
          case measure=>omega
      · rw [if_neg (fun h=>hf h.2.1)] at hp
        have hf':decide (f1 < (a:Int))=false:=decide_eq_false hf
        obtain ⟨wx,hwx⟩:∃ wx,wr.alloc (.cells #[.int .u8 7,.int .u8 f1,.int .u8 f2,.int .u8 f3,.int .i64 f4] 45)=wx:=⟨_,rfl⟩
        have bX:wx.heap[W]? = some (.cells #[.int .u8 7,.int .u8 f1,.int .u8 f2,.int .u8 f3,.int .i64 f4] 45 (0,0)):=by
          rw [← hwx,← hW]
          exact nY wr _
        have bT:wx.heap[G+2]? = some (.cells #[.slice (some ⟨G+1,0,none⟩) a a] 28 (0,0)):=by
          rw [← hwx]
          exact ah BT _
        have bK:wx.heap[G]? = some (.cells #[.slice fA bF.length eY,.string aZ,.string bn,.slice (some ad) aG.length fC] 25 (0,0)):=by
          rw [← hwx]
          exact ah BK _
        have hBx:Below w.heap.size w wx:=by
          rw [← hwx]
          exact aj HB _
        have Af:sD wx (G+1) (G+3) a m Y:=by
          rw [← hwx]
          exact hM.alloc _
        have y0:wx.cell? ⟨W,0,none⟩=some (.int .u8 7):=(aJ bX 0).trans rfl
        have y1:wx.cell? ⟨W,1,none⟩=some (.int .u8 f1):=(aJ bX 1).trans rfl
        have y2:wx.cell? ⟨W,2,none⟩=some (.int .u8 f2):=(aJ bX 2).trans rfl
        have y3:wx.cell? ⟨W,3,none⟩=some (.int .u8 f3):=(aJ bX 3).trans rfl
        have y4:wx.cell? ⟨W,4,none⟩=some (.int .i64 f4):=(aJ bX 4).trans rfl
        have yT:wx.cell? ⟨G+2,0,none⟩=some (.slice (some ⟨G+1,0,none⟩) a a):=(aJ bT 0).trans rfl
        clear BT BK HB hM
        have hti:=l9 (G+2) (G+1) a f1 u1 u2 wx yT
        rw [hf'] at hti
        clear bX hf hG hlt hTW U2 TN rQ u1 u2 u3 P6
        go_wp2_with (go_at_call 15;refine hti.mono ?_;rintro e w5 ⟨rfl,rfl⟩)
        go_roundg gk
        case rel=>exact ⟨i+1,_,_,hgi,by rw [e2],rfl,bT,bK,hBx,Af,hp⟩
        case measure=>omega
    · rw [if_neg (fun h=>h5 h.1)] at hp
      have h5':(o == 7)=false:=beq_eq_false_iff_ne.2 h5
      obtain ⟨wx,hwx⟩:∃ wx,wr.alloc (.cells #[.int .u8 o,.int .u8 f1,.int .u8 f2,.int .u8 f3,.int .i64 f4] 45)=wx:=⟨_,rfl⟩
      have bX:wx.heap[W]? = some (.cells #[.int .u8 o,.int .u8 f1,.int .u8 f2,.int .u8 f3,.int .i64 f4] 45 (0,0)):=by
        rw [← hwx,← hW]
        exact nY wr _
      have bT:wx.heap[G+2]? = some (.cells #[.slice (some ⟨G+1,0,none⟩) a a] 28 (0,0)):=by
        rw [← hwx]
        exact ah BT _
      have bK:wx.heap[G]? = some (.cells #[.slice fA bF.length eY,.string aZ,.string bn,.slice (some ad) aG.length fC] 25 (0,0)):=by
        rw [← hwx]
        exact ah BK _
      have hBx:Below w.heap.size w wx:=by
        rw [← hwx]
        exact aj HB _
      have Af:sD wx (G+1) (G+3) a m Y:=by
        rw [← hwx]
        exact hM.alloc _
      have y0:wx.cell? ⟨W,0,none⟩=some (.int .u8 o):=(aJ bX 0).trans rfl
      have y1:wx.cell? ⟨W,1,none⟩=some (.int .u8 f1):=(aJ bX 1).trans rfl
      have y2:wx.cell? ⟨W,2,none⟩=some (.int .u8 f2):=(aJ bX 2).trans rfl
      have y3:wx.cell? ⟨W,3,none⟩=some (.int .u8 f3):=(aJ bX 3).trans rfl
      have y4:wx.cell? ⟨W,4,none⟩=some (.int .i64 f4):=(aJ bX 4).trans rfl
      have yT:wx.cell? ⟨G+2,0,none⟩=some (.slice (some ⟨G+1,0,none⟩) a a):=(aJ bT 0).trans rfl
      clear BT BK HB hM
      clear bX h5 hG hlt hTW U2 TN rQ u1 u2 u3 P6
      go_wp2
      go_roundg gk
      case rel=>exact ⟨i+1,_,_,hgi,by rw [e2],rfl,bT,bK,hBx,Af,hp⟩
      case measure=>omega
end Go.Proofs.YtgfnpdfhdgenbaaDoor.P
end
section
namespace Go.Proofs.YtgfnpdfhdgenbaaDoor.P
open Go.RowKit Go.Proofs.ae.bf Go.Proofs.ae.bY Go.Proofs.ae.cZ
attribute [local go_sem ↓] Go.wp_at_zero Go.wp_at_succ
theorem P5:Tryd.prog.underlying 28=some (.slice 40):=by kernel_rfl
theorem PY:Tryd.prog.underlying 40=some (.slice 4):=by kernel_rfl
theorem WI:(Tryd.prog.info? 40).map (fun i=>(i.zero,i.size,i.bytes))=some (some (.slice none 0 0),1,24):=by kernel_rfl
theorem info4:(Tryd.prog.info? 4).map (fun i=>(i.zero,i.size,i.bytes))=some (some (.bool false),1,1):=by kernel_rfl
structure Half (w:World) (O r0 n m a:Nat):Prop where
  out:w.rowIs O 40 n fun j=>if j < a then .slice (some ⟨r0+j,0,none⟩) m m else .slice none 0 0
  row:∀ j,j < a→w.rowIs (r0+j) 4 m fun _=>.bool false
  lt:O < r0
  size:w.heap.size=r0+a
set_option maxRecDepth 100000 in
set_option maxHeartbeats 3200000 in
theorem gJ.raw (k:Nat) (fA:Option Addr) (eY:Nat) (bF:List ByteArray) (aZ:ByteArray) (bn:ByteArray) (gz:Option Addr) (fC:Nat) (aG:List (gY)) (r:List (List Bool)) (w:World) (jX:Kd.C Kd.string w fA bF.length bF) (jZ:bF.length≤eY) (jW:Kd.C uU w gz aG.length aG) (jY:aG.length≤fC) (h:gJ.f k bF aZ bn aG=some r) :
    Calls Tryd.prog 8 #[.agg #[.slice fA bF.length eY,.string aZ,.string bn,.slice gz aG.length fC]] w fun e w'=>∃ O r0 X,e=.returned (.slice (some ⟨O,0,none⟩) aZ.size aZ.size)∧r=qN aZ.size (aG.length+1) X∧sD w' O r0 aZ.size (aG.length+1) X∧w.heap.size≤O∧Below w.heap.size w w':=by
  have Ad:=Tryd.underlying25
  have zl:=Tryd.underlying45
  have HR3:=af.mk jW
  clear jX jW jZ jY
  unfold gJ.f at h
  by_cases hg:aZ.size≤8∧aG.length≤1000∧aG.all UI=true
  rotate_left
  · rw [if_neg hg] at h
    cases h
  rw [if_pos hg] at h
  obtain ⟨hn8,rQ,hU⟩:=hg
  obtain ⟨X,hX,hr⟩:=Option.bind_eq_some_iff.1 h
  obtain rfl:=Option.some.inj hr
  clear h hr
  obtain ⟨n,hn⟩:∃ n,aZ.size=n:=⟨_,rfl⟩
  obtain ⟨m,hm⟩:∃ m,aG.length+1=m:=⟨_,rfl⟩
  rw [hn] at hn8 hX ⊢
  rw [hm] at hX ⊢
  obtain ⟨G,hG⟩:∃ G,w.heap.size=G:=⟨_,rfl⟩
  obtain ⟨wb,hwb⟩:∃ wb,w.alloc (.cells #[.slice fA bF.length eY,.string aZ,.string bn,.slice gz aG.length fC] 25)=wb:=⟨_,rfl⟩
  have sb:wb.heap.size=G+1:=by rw [← hwb,← hG];simp
  have BK:wb.heap[G]? = some (.cells #[.slice fA bF.length eY,.string aZ,.string bn,.slice gz aG.length fC] 25 (0,0)):=by
    rw [← hwb,← hG]
    exact nY w _
  have HB:Below w.heap.size w wb:=by
    rw [← hwb]
    exact aj (Below.refl _ _) _
  have cz1:wb.cell? ⟨G,1,none⟩=some (.string aZ):=(aJ BK 1).trans rfl
  have hmk:=run_make_row' (P:=Tryd.prog) 28 40 (.slice none 0 0) 24 P5 WI rfl .i64 .i64 n (by omega) (by omega)
  obtain ⟨wo,hwo⟩:∃ wo,wb.alloc (.cells (madeCells #[.slice none 0 0] n) 40)=wo:=⟨_,rfl⟩
  have so:wo.heap.size=G+2:=by rw [← hwo];simp [sb]
  have BKo:wo.heap[G]? = some (.cells #[.slice fA bF.length eY,.string aZ,.string bn,.slice gz aG.length fC] 25 (0,0)):=by
    rw [← hwo]
    exact ah BK _
  have Oo:wo.rowIs (G+1) 40 n (fun _=>.slice none 0 0):=by
    have:=World.rowIs_made wb (.slice none 0 0) n 40
    rw [hwo,sb] at this
    exact this
  have HBo:Below w.heap.size w wo:=by
    rw [← hwo]
    exact aj HB _
  go_enter Tryd.func8,Tryd.ntmps8
  go_wp2_with fail
  obtain ⟨wt,hwt⟩:∃ wt,wo.alloc (.cells #[.slice (some ⟨G+1,0,none⟩) n n] 28)=wt:=⟨_,rfl⟩
  have BT:wt.heap[G+2]? = some (.cells #[.slice (some ⟨G+1,0,none⟩) n n] 28 (0,0)):=by
    rw [← hwt,← so]
    exact nY wo _
  have BKt:wt.heap[G]? = some (.cells #[.slice fA bF.length eY,.string aZ,.string bn,.slice gz aG.length fC] 25 (0,0)):=by
    rw [← hwt]
    exact ah BKo _
  have HBt:Below w.heap.size w wt:=by
    rw [← hwt]
    exact aj HBo _
  have H0:Half wt (G+1) (G+3) n m 0:=by
    refine ⟨?_,fun j hj=>absurd hj (Nat.not_lt_zero _),by omega,by rw [← hwt];simp [so]⟩
    rw [← hwt]
    refine (Oo.alloc _).congr fun i _=>?_
    rw [if_neg (Nat.not_lt_zero _)]
  rw [hwt]
  clear hmk sb BK cz1 so BKo Oo HBo HB hwb hwo
  have hmk:=run_make_row' (P:=Tryd.prog) 40 4 (.bool false) 1 PY info4 rfl .i64 .i64 m (by omega) (by omega)
  go_loopw [17] (fun i wr=>∃ a:Nat,a≤n∧i=.int .i64 a∧wr.heap[G+2]? = some (.cells #[.slice (some ⟨G+1,0,none⟩) n n] 28 (0,0))∧wr.heap[G]? = some (.cells #[.slice fA bF.length eY,.string aZ,.string bn,.slice gz aG.length fC] 25 (0,0))∧Below w.heap.size w wr∧Half wr (G+1) (G+3) n m a) (fun i _=>n - (intOf i).toNat)
  case atStart=>exact ⟨0,Nat.zero_le _,rfl,BT,BKt,HBt,H0⟩
  case round =>
    clear BT BKt HBt H0 hwt
    obtain ⟨a,ha,rfl,BT,BK,HB,hH⟩:=hrel
    have cT:wr.cell? ⟨G+2,0,none⟩=some (.slice (some ⟨G+1,0,none⟩) n n):=(aJ BT 0).trans rfl
    have c3:wr.cell? ⟨G,3,none⟩=some (.slice gz aG.length fC):=(aJ BK 3).trans rfl
    by_cases hlt:a < n
    rotate_left
    · obtain rfl:a=n:=by omega
      have hlt':decide ((a:Int) < (a:Int))=false:=decide_eq_false (by omega)
      have hM0:sD wr (G+1) (G+3) a m (fun _ _=>false):=⟨hH.out.congr fun j hj=>if_pos hj,hH.row,by omega⟩
      clear hH hmk hlt
      go_wp2_with fail
      go_loopg [33] aG.length (fun kq iv wr=>∃ (i:Nat) (Y:Tb),kq+i=aG.length∧iv=.int .i64 i∧wr.heap[G+2]? = some (.cells #[.slice (some ⟨G+1,0,none⟩) a a] 28 (0,0))∧wr.heap[G]? = some (.cells #[.slice fA bF.length eY,.string aZ,.string bn,.slice gz aG.length fC] 25 (0,0))∧Below w.heap.size w wr∧sD wr (G+1) (G+3) a m Y∧iJ a m aG k (su a (aG.drop i) i Y)=some X)
      case atStart=>exact ⟨0,_,Nat.add_zero _,rfl,BT,BK,HB,hM0,hX⟩
      case round =>
        clear BT BK HB hM0 hX cT c3 hlt'
        obtain ⟨i,Y,hi,rfl,BT,BK,HB,hM,hY⟩:=hrel
        cases gk with
        | zero =>
          obtain rfl:i=aG.length:=by omega
          have hlt':decide ((aG.length:Int) < (aG.length:Int))=false:=decide_eq_false (by omega)
          rw [List.drop_length] at hY
          have hY2:iJ a m aG k Y=some X:=hY
          clear hY hi
          go_wp2_with fail
          go_loopg [8] k (fun kq v8 wr=>∃ (b:Bool) (Y:Tb),v8=.bool b∧(if b=true then iJ a m aG kq Y=some X else Y=X)∧wr.heap[G+2]? = some (.cells #[.slice (some ⟨G+1,0,none⟩) a a] 28 (0,0))∧wr.heap[G]? = some (.cells #[.slice fA bF.length eY,.string aZ,.string bn,.slice gz aG.length fC] 25 (0,0))∧Below w.heap.size w wr∧sD wr (G+1) (G+3) a m Y)
          case atStart=>exact ⟨true,Y,rfl,by rw [if_pos rfl];exact hY2,BT,BK,HB,hM⟩
          case round =>
            clear BT BK HB hM hY2 hlt'
            obtain ⟨b,Y,rfl,hY,BT,BK,HB,hM⟩:=hrel
            have cT:wr.cell? ⟨G+2,0,none⟩=some (.slice (some ⟨G+1,0,none⟩) a a):=(aJ BT 0).trans rfl
            have c3:wr.cell? ⟨G,3,none⟩=some (.slice gz aG.length fC):=(aJ BK 3).trans rfl
            cases b
            · obtain rfl:Y=X:=hY
              go_wp2
              go_ret
              exact ⟨G+1,G+3,_,rfl,rfl,hM,by omega,HB⟩
            · rw [if_pos rfl] at hY
              cases gk with
              | zero =>
                rw [iJ] at hY
                cases hY
              | succ gk =>
                rw [iJ] at hY
                obtain ⟨pb,PZ,hp⟩:∃ pb PZ,kM a m aG false Y=(pb,PZ):=⟨_,_,rfl⟩
                rw [hp] at hY
                dsimp only at hY
                go_wp2_with fail
                clear cT c3
                refine Lj G a m fA eY bF aZ bn gz fC aG w HR3 rQ hU hm hG _ pb PZ _ _ _ _ _ _ _ _ _ _ _ _ _ _ _ _ _ _ _ _ _ _ _ _ _ _ _ _ _ _ _ _ _ _ _ _ _ _ _ _ _ _ _ _ _ _ _ _ _ _ _ _ _ _ _ _ _ _ _ _ _ _ _ _ _ _ _ _ _ _ _ _ _ _ _ _ _ _ _ _ _ _ _ _ _ _ _ _ ?_ Y wr BT BK HB hM hp
                clear BT BK HB hM hp
                intro u10 u59 u60 u61 u62 u63 u64 u65 u66 u67 u68 u69 u70 u71 u72 u73 u74 u75 u76 u77 u78 u79 u80 u81 u82 u83 u84 u85 u86 u87 u88 u89 u90 u91 u92 wr ⟨BT,BK,HB,hM⟩
                have hY3:if pb=true then iJ a m aG gk PZ=some X else PZ=X:=by
                  cases pb
                  · exact Option.some.inj hY
                  · exact hY
                clear hY
                go_wp2
                go_roundg gk
                case measure=>omega
                case rel=>exact ⟨pb,PZ,rfl,hY3,BT,BK,HB,hM⟩
        | succ gk =>
        have hlt:i < aG.length:=by omega
        have hgi:gk+(i+1)=aG.length:=by omega
        clear hi
        obtain ⟨ad,eA,x0,x1,x2,x3,x4⟩:=oP HR3.out (i:Nat) (Int.natCast_nonneg i) (by omega)
        subst eA
        rw [Int.toNat_natCast] at x0 x1 x2 x3 x4
        replace x0:=(HB.cell (World.block_lt_of_cell? w _ x0)).trans x0
        replace x1:=(HB.cell (World.block_lt_of_cell? w _ x1)).trans x1
        replace x2:=(HB.cell (World.block_lt_of_cell? w _ x2)).trans x2
        replace x3:=(HB.cell (World.block_lt_of_cell? w _ x3)).trans x3
        replace x4:=(HB.cell (World.block_lt_of_cell? w _ x4)).trans x4
        obtain ⟨u1,u2,u3,P6⟩:=Np hU hlt
        rw [drop_cons aG i hlt] at hY
        have hlt':decide ((i:Int) < (aG.length:Int))=true:=decide_eq_true (by omega)
        have k0:(0≤(i:Int))=True:=eq_true (by omega)
        have k1:((i:Int) < (aG.length:Int))=True:=eq_true (by omega)
        have e2:wrap64 ((i:Int)+1)=((i+1:Nat):Int):=by
          unfold wrap64
          omega
        generalize aC aG (i:Nat)=x at *
        obtain ⟨o,f1,f2,f3,f4⟩:=x
        dsimp only at *
        obtain ⟨W,hW⟩:∃ W,wr.heap.size=W:=⟨_,rfl⟩
        have U2:G < W:=by rw [← hW];exact iC BK
        have hTW:G+2 < W:=by rw [← hW];exact iC BT
        have TN:∀ j,j < a→G+3+j < W:=fun j hj=>by rw [← hW];exact (hM.row j hj).lt
        rw [su] at hY
        dsimp only at hY
        by_cases h5:o=5
        · subst h5
          by_cases hf:f1 < (a:Int)
          · rw [if_pos ⟨rfl,hf⟩] at hY
            have hf':decide (f1 < (a:Int))=true:=decide_eq_true hf
            obtain ⟨b,rfl⟩:=Int.eq_ofNat_of_zero_le u1
            rw [Int.toNat_natCast] at hY
            have hb:b < a:=by omega
            obtain ⟨wx,hwx⟩:∃ wx,wr.alloc (.cells #[.int .u8 5,.int .u8 ((b:Nat):Int),.int .u8 f2,.int .u8 f3,.int .i64 f4] 45)=wx:=⟨_,rfl⟩
            have bX:wx.heap[W]? = some (.cells #[.int .u8 5,.int .u8 ((b:Nat):Int),.int .u8 f2,.int .u8 f3,.int .i64 f4] 45 (0,0)):=by
              rw [← hwx,← hW]
              exact nY wr _
            have bT:wx.heap[G+2]? = some (.cells #[.slice (some ⟨G+1,0,none⟩) a a] 28 (0,0)):=by
              rw [← hwx]
              exact ah BT _
            have bK:wx.heap[G]? = some (.cells #[.slice fA bF.length eY,.string aZ,.string bn,.slice (some ad) aG.length fC] 25 (0,0)):=by
              rw [← hwx]
              exact ah BK _
            have hBx:Below w.heap.size w wx:=by
              rw [← hwx]
              exact aj HB _
            have Af:sD wx (G+1) (G+3) a m Y:=by
              rw [← hwx]
              exact hM.alloc _
            have y0:wx.cell? ⟨W,0,none⟩=some (.int .u8 5):=(aJ bX 0).trans rfl
            have y1:wx.cell? ⟨W,1,none⟩=some (.int .u8 ((b:Nat):Int)):=(aJ bX 1).trans rfl
            have y2:wx.cell? ⟨W,2,none⟩=some (.int .u8 f2):=(aJ bX 2).trans rfl
            have y3:wx.cell? ⟨W,3,none⟩=some (.int .u8 f3):=(aJ bX 3).trans rfl
            have y4:wx.cell? ⟨W,4,none⟩=some (.int .i64 f4):=(aJ bX 4).trans rfl
            have yT:wx.cell? ⟨G+2,0,none⟩=some (.slice (some ⟨G+1,0,none⟩) a a):=(aJ bT 0).trans rfl
            clear BT BK HB hM
            have hti:=l9 (G+2) (G+1) a ((b:Nat):Int) u1 u2 wx yT
            rw [hf'] at hti
            have b0:(0≤((b:Nat):Int))=True:=eq_true (by omega)
            have b1:(((b:Nat):Int) < (a:Int))=True:=eq_true (by omega)
            have yO:wx.cell? ⟨G+1,b,none⟩=some (.slice (some ⟨G+3+b,0,none⟩) m m):=Af.out.cell hb
            have im:i < m:=by omega
            have i1:((i:Int) < (m:Int))=True:=eq_true (by omega)
            have yR:wx.cell? ⟨G+3+b,i,none⟩=some (.bool (Y b i)):=(Af.row b hb).cell im
            have fR:wx.frozen? ⟨G+3+b,i,none⟩=false:=(Af.row b hb).frozen i
            have hM2:=Af.mark (k:=i) hb
            have bT2:=dD bT (p:=⟨G+3+b,i,none⟩) (by show G+2 ≠ G+3+b;omega) (.bool true)
            have bK2:=dD bK (p:=⟨G+3+b,i,none⟩) (by show G ≠ G+3+b;omega) (.bool true)
            have hB2:Below w.heap.size w (wx.setCell ⟨G+3+b,i,none⟩ (.bool true)):=hBx.setCell (p:=⟨G+3+b,i,none⟩) (by show w.heap.size≤G+3+b;omega) _
            clear bX bT bK hBx Af hb hf im hG hlt hTW U2 TN rQ u1 u2 u3 P6
            go_wp2_with (go_at_call 15;refine hti.mono ?_;rintro e w5 ⟨rfl,rfl⟩)
            go_roundg gk
            case rel=>exact ⟨i+1,_,hgi,by rw [e2],bT2,bK2,hB2,hM2,hY⟩
            case measure=>omega
          · rw [if_neg (fun h=>hf h.2)] at hY
            have hf':decide (f1 < (a:Int))=false:=decide_eq_false hf
            obtain ⟨wx,hwx⟩:∃ wx,wr.alloc (.cells #[.int .u8 5,.int .u8 f1,.int .u8 f2,.int .u8 f3,.int .i64 f4] 45)=wx:=⟨_,rfl⟩
            have bX:wx.heap[W]? = some (.cells #[.int .u8 5,.int .u8 f1,.int .u8 f2,.int .u8 f3,.int .i64 f4] 45 (0,0)):=by
              rw [← hwx,← hW]
              exact nY wr _
            have bT:wx.heap[G+2]? = some (.cells #[.slice (some ⟨G+1,0,none⟩) a a] 28 (0,0)):=by
              rw [← hwx]
              exact ah BT _
            have bK:wx.heap[G]? = some (.cells #[.slice fA bF.length eY,.string aZ,.string bn,.slice (some ad) aG.length fC] 25 (0,0)):=by
              rw [← hwx]
              exact ah BK _
            have hBx:Below w.heap.size w wx:=by
              rw [← hwx]
              exact aj HB _
            have Af:sD wx (G+1) (G+3) a m Y:=by
              rw [← hwx]
              exact hM.alloc _
            have y0:wx.cell? ⟨W,0,none⟩=some (.int .u8 5):=(aJ bX 0).trans rfl
            have y1:wx.cell? ⟨W,1,none⟩=some (.int .u8 f1):=(aJ bX 1).trans rfl
            have y2:wx.cell? ⟨W,2,none⟩=some (.int .u8 f2):=(aJ bX 2).trans rfl
            have y3:wx.cell? ⟨W,3,none⟩=some (.int .u8 f3):=(aJ bX 3).trans rfl
            have y4:wx.cell? ⟨W,4,none⟩=some (.int .i64 f4):=(aJ bX 4).trans rfl
            have yT:wx.cell? ⟨G+2,0,none⟩=some (.slice (some ⟨G+1,0,none⟩) a a):=(aJ bT 0).trans rfl
            clear BT BK HB hM
            have hti:=l9 (G+2) (G+1) a f1 u1 u2 wx yT
            rw [hf'] at hti
            clear bX hf hG hlt hTW U2 TN rQ u1 u2 u3 P6
            go_wp2_with (go_at_call 15;refine hti.mono ?_;rintro e w5 ⟨rfl,rfl⟩)
            go_roundg gk
            case rel=>exact ⟨i+1,_,hgi,by rw [e2],bT,bK,hBx,Af,hY⟩
            case measure=>omega
        · rw [if_neg (fun h=>h5 h.1)] at hY
          have h5':(o == 5)=false:=beq_eq_false_iff_ne.2 h5
          obtain ⟨wx,hwx⟩:∃ wx,wr.alloc (.cells #[.int .u8 o,.int .u8 f1,.int .u8 f2,.int .u8 f3,.int .i64 f4] 45)=wx:=⟨_,rfl⟩
          have bX:wx.heap[W]? = some (.cells #[.int .u8 o,.int .u8 f1,.int .u8 f2,.int .u8 f3,.int .i64 f4] 45 (0,0)):=by
            rw [← hwx,← hW]
            exact nY wr _
          have bT:wx.heap[G+2]? = some (.cells #[.slice (some ⟨G+1,0,none⟩) a a] 28 (0,0)):=by
            rw [← hwx]
            exact ah BT _
          have bK:wx.heap[G]? = some (.cells #[.slice fA bF.length eY,.string aZ,.string bn,.slice (some ad) aG.length fC] 25 (0,0)):=by
            rw [← hwx]
            exact ah BK _
          have hBx:Below w.heap.size w wx:=by
            rw [← hwx]
            exact aj HB _
          have Af:sD wx (G+1) (G+3) a m Y:=by
            rw [← hwx]
            exact hM.alloc _
          have y0:wx.cell? ⟨W,0,none⟩=some (.int .u8 o):=(aJ bX 0).trans rfl
          have y1:wx.cell? ⟨W,1,none⟩=some (.int .u8 f1):=(aJ bX 1).trans rfl
          have y2:wx.cell? ⟨W,2,none⟩=some (.int .u8 f2):=(aJ bX 2).trans rfl
          have y3:wx.cell? ⟨W,3,none⟩=some (.int .u8 f3):=(aJ bX 3).trans rfl
          have y4:wx.cell? ⟨W,4,none⟩=some (.int .i64 f4):=(aJ bX 4).trans rfl
          have yT:wx.cell? ⟨G+2,0,none⟩=some (.slice (some ⟨G+1,0,none⟩) a a):=(aJ bT 0).trans rfl
          clear BT BK HB hM
          clear bX h5 hG hlt hTW U2 TN rQ u1 u2 u3 P6
          go_wp2
          go_roundg gk
          case rel=>exact ⟨i+1,_,hgi,by rw [e2],bT,bK,hBx,Af,hY⟩
          case measure=>omega
    have hlt':decide ((a:Int) < (n:Int))=true:=decide_eq_true (by omega)
    have k0:(0≤(a:Int))=True:=eq_true (by omega)
    have k1:((a:Int) < (n:Int))=True:=eq_true (by omega)
    have e2:wrap64 ((a:Int)+1)=((a+1:Nat):Int):=by
      unfold wrap64
      omega
    have em:wrap64 ((aG.length:Int)+1)=(m:Int):=by
      unfold wrap64
      omega
    have em':IntKind.i64.wrap ((aG.length:Int)+1)=(m:Int):=(aX _).trans em
    have hs:wr.heap.size=G+3+a:=hH.size
    obtain ⟨wm,hwm⟩:∃ wm,wr.drew.alloc (.cells (madeCells #[.bool false] m) 4)=wm:=⟨_,rfl⟩
    have BTm:wm.heap[G+2]? = some (.cells #[.slice (some ⟨G+1,0,none⟩) n n] 28 (0,0)):=by
      rw [← hwm]
      exact ah (ax BT) _
    have BKm:wm.heap[G]? = some (.cells #[.slice fA bF.length eY,.string aZ,.string bn,.slice gz aG.length fC] 25 (0,0)):=by
      rw [← hwm]
      exact ah (ax BK) _
    have cTm:wm.cell? ⟨G+2,0,none⟩=some (.slice (some ⟨G+1,0,none⟩) n n):=(aJ BTm 0).trans rfl
    have c3m:wm.cell? ⟨G,3,none⟩=some (.slice gz aG.length fC):=(aJ BKm 3).trans rfl
    have Om:wm.rowIs (G+1) 40 n (fun j=>if j < a then .slice (some ⟨G+3+j,0,none⟩) m m else .slice none 0 0):=by
      rw [← hwm]
      exact hH.out.drew.alloc _
    have fO:=Om.frozen a
    have cO:wm.cell? ⟨G+1,a,none⟩=some (.slice none 0 0):=by rw [Om.cell hlt,if_neg (Nat.lt_irrefl a)]
    have BT2:=dD BTm (p:=⟨G+1,a,none⟩) (by show G+2 ≠ G+1;omega) (.slice (some ⟨G+3+a,0,none⟩) m m)
    have BK2:=dD BKm (p:=⟨G+1,a,none⟩) (by show G ≠ G+1;omega) (.slice (some ⟨G+3+a,0,none⟩) m m)
    have HB2:Below w.heap.size w (wm.setCell ⟨G+1,a,none⟩ (.slice (some ⟨G+3+a,0,none⟩) m m)):=by
      rw [← hwm]
      exact ay (aj (oO HB) _) (by omega)
    have hH2:Half (wm.setCell ⟨G+1,a,none⟩ (.slice (some ⟨G+3+a,0,none⟩) m m)) (G+1) (G+3) n m (a+1):=by
      refine ⟨(Om.set a _).congr fun j hj=>?_,fun j hj=>?_,by omega,?_⟩
      · by_cases e:j=a
        · subst e
          rw [if_pos rfl,if_pos (by omega)]
        · rw [if_neg e]
          by_cases e2:j < a
          · rw [if_pos e2,if_pos (by omega)]
          · rw [if_neg e2,if_neg (by omega)]
      · refine World.rowIs.setOther ?_ (by show G+3+j ≠ G+1;omega) _
        rw [← hwm]
        by_cases e:j=a
        · subst e
          have:=World.rowIs_made wr.drew (.bool false) m 4
          rw [show wr.drew.heap.size=G+3+j from hs] at this
          exact this
        · exact ((hH.row j (by omega)).drew).alloc _
      · show (wm.heap.modify _ _).size=_
        rw [Array.size_modify,← hwm]
        simp only [World.alloc,Array.size_push]
        show wr.heap.size+1=G+3+(a+1)
        omega
    have ha1:a+1≤n:=hlt
    have hms:n - (a+1) < n - a:=by omega
    clear HB hH BT BK em Om BTm BKm hlt
    go_wp2_with fail
    go_region_held3 (fun w'=>w'.cell? ⟨G+2,0,none⟩=some (.slice (some ⟨G+1,0,none⟩) n n)∧w'.cell? ⟨G,3,none⟩=some (.slice gz aG.length fC)) (first|(go_keep;done)|exact ⟨cTm,c3m⟩|exact ⟨(aJ BT2 0).trans rfl,(aJ BK2 3).trans rfl⟩) (fail)
    go_wp2
    go_roundw
    case rel=>exact ⟨a+1,ha1,rfl,BT2,BK2,HB2,hH2⟩
    case measure=>exact hms
theorem gJ.calls (k:Nat) (fA:Option Addr) (eY:Nat) (bF:List ByteArray) (aZ:ByteArray) (bn:ByteArray) (gz:Option Addr) (fC:Nat) (aG:List (gY)) (r:List (List Bool)) (w:World) (jX:Kd.C Kd.string w fA bF.length bF) (jZ:bF.length≤eY) (jW:Kd.C uU w gz aG.length aG) (jY:aG.length≤fC) (h:gJ.f k bF aZ bn aG=some r) :
    Calls Tryd.prog 8 #[.agg #[.slice fA bF.length eY,.string aZ,.string bn,.slice gz aG.length fC]] w fun e w'=>∃ v,e=.returned v∧Kd.S (Kd.slice 4 Kd.bool) 40 w' w.heap.size (fun _=>True) v r∧Below w.heap.size w w':=by
  have hg:aZ.size≤8∧aG.length≤1000:=by
    unfold gJ.f at h
    by_cases hg:aZ.size≤8∧aG.length≤1000∧aG.all UI=true
    · exact ⟨hg.1,hg.2.1⟩
    · rw [if_neg hg] at h
      cases h
  refine (gJ.raw k fA eY bF aZ bn gz fC aG r w jX jZ jW jY h).mono ?_
  rintro e w' ⟨O,r0,X,rfl,rfl,hM,hO,hb⟩
  exact ⟨_,rfl,hM.S hO (by show aZ.size≤maxLen;unfold maxLen;omega) (by show aG.length+1≤maxLen;unfold maxLen;omega),hb⟩
end Go.Proofs.YtgfnpdfhdgenbaaDoor.P
end
