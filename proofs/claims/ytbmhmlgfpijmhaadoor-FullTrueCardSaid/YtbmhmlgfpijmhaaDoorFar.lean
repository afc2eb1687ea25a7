/- Parts of the proof of FullTrue: what the functions that it reaches compute, and plain facts about that. -/
import Derived.Test.YtbmhmlgfpijmhaaDoorFaq
set_option linter.unusedVariables false
set_option linter.unusedSimpArgs false
section
section
namespace Go.Proofs.YtbmhmlgfpijmhaaDoor.P
open Go.RowKit Go.Proofs.af.bG Go.Proofs.af.dD Go.Proofs.af.dM
def WO (s:St) (op a b c:Nat) (n:Int):Option (St × Bool) :=
  if op=1 then if a < 8 then some ({ s with x:=upd s.x a n },true) else none
  else if op=2 then if a < 8∧b < 8∧c < 8 then some ({ s with x:=upd s.x a (wrap64 (s.x b+s.x c)) },true) else none
  else if op=15 then if a < 8∧b < 8∧c < 8 then some ({ s with x:=upd s.x a (if s.p b=s.p c then 1 else 0) },true) else none
  else if op=14 then if a < 8∧s.out.length≤1000000 then some ({ s with out:=s.out++[s.x a] },true) else none
  else some (s,false)
def rU (s:St) (op a b:Nat) (n:Int):Option (St × Int) :=
  if a < 8∧b < 8∧s.bH.length≤1000000 then
    if op=8 then if s.p b=0 then some (s,9) else if Ep s (s.p b) n then some ({ s with x:=upd s.x a (rd (rowOf s (s.p b)) n) },0) else none
    else if op=10 then if s.p b=0 then some (s,9) else if Ep s (s.p b) n then some ({ s with p:=upd s.p a (rd (rowOf s (s.p b)) n) },0) else none
    else if op=9 then if s.p a=0 then some (s,9) else if Ep s (s.p a) n then some ({ s with bH:=s.bH.set (s.p a - 1).toNat ((rowOf s (s.p a)).set n.toNat (s.x b)) },0) else none
    else if op=11 then if s.p a=0 then some (s,9) else if Ep s (s.p a) n then some ({ s with bH:=s.bH.set (s.p a - 1).toNat ((rowOf s (s.p a)).set n.toNat (s.p b)) },0) else none
    else none
  else none
def YD (sz:Int→Option Int) (s:St) (op a b c:Nat) (n:Int):Option (St × Int) :=
  if op=3 then some ({ bump s with pc:=n },0)
  else if op=4 then if a < 8 then if s.x a=0 then some ({ bump s with pc:=n },0) else some (bump s,0) else none
  else (WO (bump s) op a b c n).bind fun u=>if u.2=true then some (u.1,0) else (Gv sz (bump s) op a b).bind fun v=>if v.2=true then some (v.1,0) else rU (bump s) op a b n
theorem EJ (s s':St) (is:Bool) (vO vU:Value) (op a bb cc:Nat) (n:Int) (w:World) (hv:qC s vO vU w) (h:WO s op a bb cc n=some (s',is)) :
    Calls Tryd.prog 24 #[.agg (cellsS s vO vU),.agg #[.int .u8 op,.int .u8 a,.int .u8 bb,.int .u8 cc,.int .i64 n]] w fun e w'=>∃ qf qc,e=.returned (.tuple #[.agg (cellsS s' qf qc),.bool is])∧qC s' qf qc w'∧Below w.heap.size w w':=by
  unfold WO at h
  by_cases h1:op=1
  · rw [if_pos h1] at h
    subst h1
    by_cases hc:a < 8
    · rw [if_pos hc] at h
      obtain ⟨rfl,rfl⟩:=Prod.mk.inj (Option.some.inj h)
      exact Lr s vO vU a bb cc n hc w hv
    · rw [if_neg hc] at h
      cases h
  rw [if_neg h1] at h
  by_cases h2:op=2
  · rw [if_pos h2] at h
    subst h2
    by_cases hc:a < 8∧bb < 8∧cc < 8
    · rw [if_pos hc] at h
      obtain ⟨rfl,rfl⟩:=Prod.mk.inj (Option.some.inj h)
      exact Lp s vO vU a bb cc n hc.1 hc.2.1 hc.2.2 w hv
    · rw [if_neg hc] at h
      cases h
  rw [if_neg h2] at h
  by_cases h15:op=15
  · rw [if_pos h15] at h
    subst h15
    by_cases hc:a < 8∧bb < 8∧cc < 8
    · rw [if_pos hc] at h
      obtain ⟨rfl,rfl⟩:=Prod.mk.inj (Option.some.inj h)
      by_cases hz:s.p bb=s.p cc
      · rw [if_pos hz]
        exact zq s vO vU a bb cc n hc.1 hc.2.1 hc.2.2 hz w hv
      · rw [if_neg hz]
        exact Ah s vO vU a bb cc n hc.1 hc.2.1 hc.2.2 hz w hv
    · rw [if_neg hc] at h
      cases h
  rw [if_neg h15] at h
  by_cases Yl:op=14
  · rw [if_pos Yl] at h
    subst Yl
    by_cases hc:a < 8∧s.out.length≤1000000
    · rw [if_pos hc] at h
      obtain ⟨rfl,rfl⟩:=Prod.mk.inj (Option.some.inj h)
      exact GG s vO vU a bb cc n hc.1 hc.2 w hv
    · rw [if_neg hc] at h
      cases h
  rw [if_neg Yl] at h
  obtain ⟨rfl,rfl⟩:=Prod.mk.inj (Option.some.inj h)
  exact Ce s vO vU op a bb cc n h1 h2 h15 Yl w hv
theorem Ep.open {s:St} {o n:Int} (h:Ep s o n):∃ k m:Nat,o=(k:Int)+1∧k < s.bH.length∧s.bH[k]? = some (rowOf s o)∧n=m∧m < (rowOf s o).length∧(o - 1).toNat=k∧n.toNat=m:=by
  obtain ⟨h1,h2,h3,h4⟩:=h
  refine ⟨(o - 1).toNat,n.toNat,by omega,by omega,?_,by omega,by omega,rfl,rfl⟩
  unfold rowOf
  rw [List.getD_eq_getElem?_getD,List.getElem?_eq_getElem (by omega)]
  rfl
theorem GH (s s':St) (e':Int) (vO vU:Value) (op a bb cc:Nat) (n:Int) (w:World) (hv:qC s vO vU w) (hrow:∀ j (hj:j < s.bH.length),(s.bH[j]).length≤1000000) (h:rU s op a bb n=some (s',e')) :
    Calls Tryd.prog 26 #[.agg (cellsS s vO vU),.agg #[.int .u8 op,.int .u8 a,.int .u8 bb,.int .u8 cc,.int .i64 n]] w fun e w'=>∃ qf qc,e=.returned (.tuple #[.agg (cellsS s' qf qc),.int .i64 e'])∧qC s' qf qc w'∧Below w.heap.size w w':=by
  unfold rU at h
  by_cases hc:a < 8∧bb < 8∧s.bH.length≤1000000
  case neg =>
    rw [if_neg hc] at h
    cases h
  rw [if_pos hc] at h
  obtain ⟨ha,hb,hl⟩:=hc
  by_cases h8:op=8
  · rw [if_pos h8] at h
    subst h8
    by_cases hz:s.p bb=0
    · rw [if_pos hz] at h
      obtain ⟨rfl,rfl⟩:=Prod.mk.inj (Option.some.inj h)
      exact GK s vO vU a bb cc n hb hz w hv
    rw [if_neg hz] at h
    by_cases hF:Ep s (s.p bb) n
    · rw [if_pos hF] at h
      obtain ⟨rfl,rfl⟩:=Prod.mk.inj (Option.some.inj h)
      obtain ⟨k,m,e1,e2,e3,e4,e5,e6,e7⟩:=hF.open
      exact YR s vO vU a bb cc n ha hb k m (rowOf s (s.p bb)) e1 e2 hl e3 e4 e5 w hv
    · rw [if_neg hF] at h
      cases h
  rw [if_neg h8] at h
  by_cases h10:op=10
  · rw [if_pos h10] at h
    subst h10
    by_cases hz:s.p bb=0
    · rw [if_pos hz] at h
      obtain ⟨rfl,rfl⟩:=Prod.mk.inj (Option.some.inj h)
      exact EM s vO vU a bb cc n hb hz w hv
    rw [if_neg hz] at h
    by_cases hF:Ep s (s.p bb) n
    · rw [if_pos hF] at h
      obtain ⟨rfl,rfl⟩:=Prod.mk.inj (Option.some.inj h)
      obtain ⟨k,m,e1,e2,e3,e4,e5,e6,e7⟩:=hF.open
      exact WS s vO vU a bb cc n ha hb k m (rowOf s (s.p bb)) e1 e2 hl e3 e4 e5 w hv
    · rw [if_neg hF] at h
      cases h
  rw [if_neg h10] at h
  have hlen:∀ {k:Nat} {row:List Int},s.bH[k]? = some row→row.length≤1000000:=fun {k row} hk=>by
    obtain ⟨hk',rfl⟩:=List.getElem?_eq_some_iff.1 hk
    exact hrow k hk'
  by_cases h9:op=9
  · rw [if_pos h9] at h
    subst h9
    by_cases hz:s.p a=0
    · rw [if_pos hz] at h
      obtain ⟨rfl,rfl⟩:=Prod.mk.inj (Option.some.inj h)
      exact GI s vO vU a bb cc n ha hz w hv
    rw [if_neg hz] at h
    by_cases hF:Ep s (s.p a) n
    · rw [if_pos hF] at h
      obtain ⟨rfl,rfl⟩:=Prod.mk.inj (Option.some.inj h)
      obtain ⟨k,m,e1,e2,e3,e4,e5,e6,e7⟩:=hF.open
      rw [e6]
      exact YQ s vO vU a bb cc n ha hb k m (rowOf s (s.p a)) e1 e2 hl e3 e4 e5 (hlen e3) w hv
    · rw [if_neg hF] at h
      cases h
  rw [if_neg h9] at h
  by_cases h11:op=11
  · rw [if_pos h11] at h
    subst h11
    by_cases hz:s.p a=0
    · rw [if_pos hz] at h
      obtain ⟨rfl,rfl⟩:=Prod.mk.inj (Option.some.inj h)
      exact EL s vO vU a bb cc n ha hz w hv
    rw [if_neg hz] at h
    by_cases hF:Ep s (s.p a) n
    · rw [if_pos hF] at h
      obtain ⟨rfl,rfl⟩:=Prod.mk.inj (Option.some.inj h)
      obtain ⟨k,m,e1,e2,e3,e4,e5,e6,e7⟩:=hF.open
      rw [e6]
      exact WR s vO vU a bb cc n ha hb k m (rowOf s (s.p a)) e1 e2 hl e3 e4 e5 (hlen e3) w hv
    · rw [if_neg hF] at h
      cases h
  rw [if_neg h11] at h
  cases h
theorem Le {sz:Int→Option Int} {s:St} {op a b c:Nat} {n:Int} {r:St × Int} (hO:s.bH.length≤1000000) (hU:s.out.length≤1000000) (h:qJ sz s op a b c n=some r):YD sz s op a b c n=some r:=by
  match op,h with
  | 0,h=>exact absurd h (by show ¬ (none:Option (St × Int))=some r;simp)
  | 1,h =>
    have h':(if a < 8 then some ({ bump s with x:=upd s.x a n },(0:Int)) else none)=some r:=h
    show (if a < 8 then some ({ bump s with x:=upd s.x a n },true) else none:Option (St × Bool)).bind (fun u=>if u.2=true then some (u.1,(0:Int)) else (Gv sz (bump s) 1 a b).bind fun v=>if v.2=true then some (v.1,0) else rU (bump s) 1 a b n)=some r
    by_cases hc:a < 8
    · rw [if_pos hc] at h'
      rw [if_pos hc]
      exact h'
    · rw [if_neg hc] at h'
      cases h'
  | 2,h =>
    have h':(if a < 8∧b < 8∧c < 8 then some ({ bump s with x:=upd s.x a (wrap64 (s.x b+s.x c)) },(0:Int)) else none)=some r:=h
    show (if a < 8∧b < 8∧c < 8 then some ({ bump s with x:=upd s.x a (wrap64 (s.x b+s.x c)) },true) else none:Option (St × Bool)).bind (fun u=>if u.2=true then some (u.1,(0:Int)) else (Gv sz (bump s) 2 a b).bind fun v=>if v.2=true then some (v.1,0) else rU (bump s) 2 a b n)=some r
    by_cases hc:a < 8∧b < 8∧c < 8
    · rw [if_pos hc] at h'
      rw [if_pos hc]
      exact h'
    · rw [if_neg hc] at h'
      cases h'
  | 3,h=>exact h
  | 4,h=>exact h
  | 5,h =>
    have h':(if a < 8 then (sz a).bind fun z=>if 0≤z∧z≤1000000 then some ({ bump s with bH:=s.bH++[List.replicate z.toNat 0],p:=upd s.p a ((s.bH.length:Int)+1) },(0:Int)) else none else none)=some r:=h
    show (some (bump s,false):Option (St × Bool)).bind (fun u=>if u.2=true then some (u.1,(0:Int)) else (if a < 8∧s.bH.length≤1000000 then (sz a).bind fun z=>if 0≤z∧z≤1000000 then some ({ bump s with bH:=s.bH++[List.replicate z.toNat 0],p:=upd s.p a ((s.bH.length:Int)+1) },true) else none else none:Option (St × Bool)).bind fun v=>if v.2=true then some (v.1,0) else rU (bump s) 5 a b n)=some r
    by_cases hc:a < 8
    · rw [if_pos hc] at h'
      rw [if_pos ⟨hc,hO⟩]
      obtain ⟨z,hz,h2⟩:=Option.bind_eq_some_iff.1 h'
      rw [hz,Option.bind_some,Option.bind_some]
      by_cases hz0:0≤z∧z≤1000000
      · rw [if_pos hz0] at h2 ⊢
        exact h2
      · rw [if_neg hz0] at h2
        cases h2
    · rw [if_neg hc] at h'
      cases h'
  | 6,h =>
    have h':(if a < 8 then some ({ bump s with p:=upd s.p a 0 },(0:Int)) else none)=some r:=h
    show (some (bump s,false):Option (St × Bool)).bind (fun u=>if u.2=true then some (u.1,(0:Int)) else (if a < 8 then some ({ bump s with p:=upd s.p a 0 },true) else none:Option (St × Bool)).bind fun v=>if v.2=true then some (v.1,0) else rU (bump s) 6 a b n)=some r
    by_cases hc:a < 8
    · rw [if_pos hc] at h'
      rw [if_pos hc]
      exact h'
    · rw [if_neg hc] at h'
      cases h'
  | 7,h =>
    have h':(if a < 8∧b < 8 then some ({ bump s with p:=upd s.p a (s.p b) },(0:Int)) else none)=some r:=h
    show (some (bump s,false):Option (St × Bool)).bind (fun u=>if u.2=true then some (u.1,(0:Int)) else (if a < 8∧b < 8 then some ({ bump s with p:=upd s.p a (s.p b) },true) else none:Option (St × Bool)).bind fun v=>if v.2=true then some (v.1,0) else rU (bump s) 7 a b n)=some r
    by_cases hc:a < 8∧b < 8
    · rw [if_pos hc] at h'
      rw [if_pos hc]
      exact h'
    · rw [if_neg hc] at h'
      cases h'
  | 8,h =>
    by_cases hc:a < 8∧b < 8
    · have e1:qJ sz s (8:Nat) a b c n=(if s.p b=0 then some (bump s,(9:Int)) else _):=if_pos hc
      have e2:rU (bump s) 8 a b n=(if s.p b=0 then some (bump s,(9:Int)) else _):=if_pos ⟨hc.1,hc.2,hO⟩
      show rU (bump s) 8 a b n=some r
      rw [e2]
      rw [e1] at h
      exact h
    · have e1:qJ sz s (8:Nat) a b c n=none:=if_neg hc
      rw [e1] at h
      cases h
  | 9,h =>
    by_cases hc:a < 8∧b < 8
    · have e1:qJ sz s (9:Nat) a b c n=(if s.p a=0 then some (bump s,(9:Int)) else _):=if_pos hc
      have e2:rU (bump s) 9 a b n=(if s.p a=0 then some (bump s,(9:Int)) else _):=if_pos ⟨hc.1,hc.2,hO⟩
      show rU (bump s) 9 a b n=some r
      rw [e2]
      rw [e1] at h
      exact h
    · have e1:qJ sz s (9:Nat) a b c n=none:=if_neg hc
      rw [e1] at h
      cases h
  | 10,h =>
    by_cases hc:a < 8∧b < 8
    · have e1:qJ sz s (10:Nat) a b c n=(if s.p b=0 then some (bump s,(9:Int)) else _):=if_pos hc
      have e2:rU (bump s) 10 a b n=(if s.p b=0 then some (bump s,(9:Int)) else _):=if_pos ⟨hc.1,hc.2,hO⟩
      show rU (bump s) 10 a b n=some r
      rw [e2]
      rw [e1] at h
      exact h
    · have e1:qJ sz s (10:Nat) a b c n=none:=if_neg hc
      rw [e1] at h
      cases h
  | 11,h =>
    by_cases hc:a < 8∧b < 8
    · have e1:qJ sz s (11:Nat) a b c n=(if s.p a=0 then some (bump s,(9:Int)) else _):=if_pos hc
      have e2:rU (bump s) 11 a b n=(if s.p a=0 then some (bump s,(9:Int)) else _):=if_pos ⟨hc.1,hc.2,hO⟩
      show rU (bump s) 11 a b n=some r
      rw [e2]
      rw [e1] at h
      exact h
    · have e1:qJ sz s (11:Nat) a b c n=none:=if_neg hc
      rw [e1] at h
      cases h
  | 12,h =>
    have h':(if a < 8∧b < 4 then some ({ bump s with p:=upd s.p a (s.g b) },(0:Int)) else none)=some r:=h
    show (some (bump s,false):Option (St × Bool)).bind (fun u=>if u.2=true then some (u.1,(0:Int)) else (if a < 8∧b < 4 then some ({ bump s with p:=upd s.p a (s.g b) },true) else none:Option (St × Bool)).bind fun v=>if v.2=true then some (v.1,0) else rU (bump s) 12 a b n)=some r
    by_cases hc:a < 8∧b < 4
    · rw [if_pos hc] at h'
      rw [if_pos hc]
      exact h'
    · rw [if_neg hc] at h'
      cases h'
  | 13,h =>
    have h':(if a < 4∧b < 8 then some ({ bump s with g:=upd s.g a (s.p b) },(0:Int)) else none)=some r:=h
    show (some (bump s,false):Option (St × Bool)).bind (fun u=>if u.2=true then some (u.1,(0:Int)) else (if a < 4∧b < 8 then some ({ bump s with g:=upd s.g a (s.p b) },true) else none:Option (St × Bool)).bind fun v=>if v.2=true then some (v.1,0) else rU (bump s) 13 a b n)=some r
    by_cases hc:a < 4∧b < 8
    · rw [if_pos hc] at h'
      rw [if_pos hc]
      exact h'
    · rw [if_neg hc] at h'
      cases h'
  | 14,h =>
    have h':(if a < 8 then some ({ bump s with out:=s.out++[s.x a] },(0:Int)) else none)=some r:=h
    show (if a < 8∧s.out.length≤1000000 then some ({ bump s with out:=s.out++[s.x a] },true) else none:Option (St × Bool)).bind (fun u=>if u.2=true then some (u.1,(0:Int)) else (Gv sz (bump s) 14 a b).bind fun v=>if v.2=true then some (v.1,0) else rU (bump s) 14 a b n)=some r
    by_cases hc:a < 8
    · rw [if_pos hc] at h'
      rw [if_pos ⟨hc,hU⟩]
      exact h'
    · rw [if_neg hc] at h'
      cases h'
  | 15,h =>
    have h':(if a < 8∧b < 8∧c < 8 then some ({ bump s with x:=upd s.x a (if s.p b=s.p c then 1 else 0) },(0:Int)) else none)=some r:=h
    show (if a < 8∧b < 8∧c < 8 then some ({ bump s with x:=upd s.x a (if s.p b=s.p c then 1 else 0) },true) else none:Option (St × Bool)).bind (fun u=>if u.2=true then some (u.1,(0:Int)) else (Gv sz (bump s) 15 a b).bind fun v=>if v.2=true then some (v.1,0) else rU (bump s) 15 a b n)=some r
    by_cases hc:a < 8∧b < 8∧c < 8
    · rw [if_pos hc] at h'
      rw [if_pos hc]
      exact h'
    · rw [if_neg hc] at h'
      cases h'
  | op+16,h =>
    exfalso
    unfold qJ at h
    rw [if_neg (by omega),if_neg (by omega),if_neg (by omega),if_neg (by omega),if_neg (by omega),if_neg (by omega),if_neg (by omega),if_neg (by omega),if_neg (by omega),if_neg (by omega),if_neg (by omega),if_neg (by omega),if_neg (by omega),if_neg (by omega),if_neg (by omega)] at h
    cases h
end Go.Proofs.YtbmhmlgfpijmhaaDoor.P
end
section
namespace Go.Proofs.YtbmhmlgfpijmhaaDoor.P
open Go.RowKit Go.Proofs.af.bG Go.Proofs.af.dD Go.Proofs.af.dM
structure StepB (G:Nat) (P S:Array Value) (w W:World):Prop where
  m0:Bk W G P 25
  m1:Bk W (G+1) S 36
  m2:Bk W (G+2) #[.int .i64 0,.int .i64 0,.int .i64 0,.int .i64 0,.int .i64 0,.int .i64 0,.int .i64 0,.int .i64 0,.int .i64 0,.int .i64 0,.int .i64 0,.int .i64 0,.int .i64 0,.int .i64 0,.int .i64 0,.int .i64 0,.int .i64 0,.int .i64 0,.int .i64 0,.int .i64 0,.slice none 0 0,.slice none 0 0,.int .i64 0,.int .i64 0] 36
  mb:Below G w W
  sz:G+3≤W.heap.size
section
variable {G:Nat} {P S:Array Value} {w W W1:World}
theorem StepB.below (h:StepB G P S w W) (hb:Below W.heap.size W W1):StepB G P S w W1 :=
  ⟨h.m0.below hb,h.m1.below hb,h.m2.below hb,h.mb.trans (hb.mono (by have:=h.sz;omega)),Nat.le_trans h.sz hb.size⟩
theorem StepB.far (h:StepB G P S w W) (g j:Nat) (v:Value) (hg:G+3≤g):StepB G P S w (W.setCell ⟨g,j,none⟩ v) :=
  ⟨h.m0.far j v (by omega),h.m1.far j v (by omega),h.m2.far j v (by omega),h.mb.setCell (p:=⟨g,j,none⟩) (by show G≤g;omega) v,by simp [World.setCell];exact h.sz⟩
theorem StepB.gB (h:StepB G P S w W) (g:Nat) (cs:Array Value) (hg:G+3≤g):StepB G P S w (W.setRow g cs) :=
  ⟨h.m0.gB cs (by omega),h.m1.gB cs (by omega),h.m2.gB cs (by omega),dE h.mb (by omega) cs,by rw [size_setRow];exact h.sz⟩
end
theorem Uj {sz:Int→Option Int} {s:St} {op:Int} {a b c:Nat} {n:Int} {r:St × Int} (h:qJ sz s op a b c n=some r):0≤op:=by
  by_cases hp:0≤op
  · exact hp
  · exfalso
    unfold qJ at h
    rw [if_neg (by omega),if_neg (by omega),if_neg (by omega),if_neg (by omega),if_neg (by omega),if_neg (by omega),if_neg (by omega),if_neg (by omega),if_neg (by omega),if_neg (by omega),if_neg (by omega),if_neg (by omega),if_neg (by omega),if_neg (by omega),if_neg (by omega)] at h
    cases h
theorem Keep.setRow {w:World} {g:Nat} {cs:Array Value} (h:Bk w g cs 36) (ds:Array Value):Keep w (w.setRow g ds):=fun k hk=>ku ds k (fun e=>by
  subst e
  obtain ⟨c,t,fr,h1,h2,_⟩:=hk
  have q:=h.symm.trans h1
  injection q with q
  injection q with _ q2 _
  exact h2 q2.symm)
theorem YI (P S:Array Value) (w:World):StepB w.heap.size P S w (((w.alloc (.cells P 25)).alloc (.cells S 36)).alloc (.cells #[.int .i64 0,.int .i64 0,.int .i64 0,.int .i64 0,.int .i64 0,.int .i64 0,.int .i64 0,.int .i64 0,.int .i64 0,.int .i64 0,.int .i64 0,.int .i64 0,.int .i64 0,.int .i64 0,.int .i64 0,.int .i64 0,.int .i64 0,.int .i64 0,.int .i64 0,.int .i64 0,.slice none 0 0,.slice none 0 0,.int .i64 0,.int .i64 0] 36)):=by
  have h1:=Bk.new w P 25
  have h2:=Bk.new (w.alloc (.cells P 25)) S 36
  have h3:=Bk.new ((w.alloc (.cells P 25)).alloc (.cells S 36)) #[.int .i64 0,.int .i64 0,.int .i64 0,.int .i64 0,.int .i64 0,.int .i64 0,.int .i64 0,.int .i64 0,.int .i64 0,.int .i64 0,.int .i64 0,.int .i64 0,.int .i64 0,.int .i64 0,.int .i64 0,.int .i64 0,.int .i64 0,.int .i64 0,.int .i64 0,.int .i64 0,.slice none 0 0,.slice none 0 0,.int .i64 0,.int .i64 0] 36
  rw [show (w.alloc (.cells P 25)).heap.size=w.heap.size+1 by simp] at h2
  rw [show ((w.alloc (.cells P 25)).alloc (.cells S 36)).heap.size=w.heap.size+2 by simp] at h3
  exact ⟨(h1.alloc _).alloc _,h2.alloc _,h3,(((Below.refl _ w).alloc (Nat.le_refl _) _).alloc (by simp) _).alloc (by simp;omega) _,by simp⟩
set_option maxRecDepth 100000 in
set_option maxHeartbeats 6400000 in
theorem Af (k:Nat) (A0:Option Addr) (c0:Nat) (l0:List ByteArray) (a1 a2:ByteArray) (A3:Option Addr) (c3:Nat) (l3:List iG) (s s':St) (d:Bool) (r2:Int) (vO vU:Value) (w:World) (hr0:Kd.C Kd.string w A0 l0.length l0) (hc0:l0.length≤c0) (hr3:Kd.C k39 w A3 l3.length l3) (hc3:l3.length≤c3) (hrF:Kd.C Ad w Ae rF.length rF)
    (hv:qC s vO vU w) (hsm:vN s) (e1 e2:Int) (Zu:az.f k l0 a1 a2 l3=some (e1,e2)) (h:vY (PZ k l0 a1 a2 l3) l3 e2 s=some (s',d,r2)) :
    Calls Tryd.prog 16 #[.agg #[.slice A0 l0.length c0,.string a1,.string a2,.slice A3 l3.length c3],.agg (cellsS s vO vU)] w fun e w'=>∃ qf qc,e=.returned (.tuple #[.agg (cellsS s' qf qc),.bool d,.int .i64 r2])∧qC s' qf qc w'∧Below w.heap.size w w':=by
  obtain ⟨G,hG⟩:∃ G,w.heap.size=G:=⟨_,rfl⟩
  obtain ⟨wb,hwb⟩:∃ wb,((w.alloc (.cells #[.slice A0 l0.length c0,.string a1,.string a2,.slice A3 l3.length c3] 25)).alloc (.cells (cellsS s vO vU) 36)).alloc (.cells #[.int .i64 0,.int .i64 0,.int .i64 0,.int .i64 0,.int .i64 0,.int .i64 0,.int .i64 0,.int .i64 0,.int .i64 0,.int .i64 0,.int .i64 0,.int .i64 0,.int .i64 0,.int .i64 0,.int .i64 0,.int .i64 0,.int .i64 0,.int .i64 0,.int .i64 0,.int .i64 0,.slice none 0 0,.slice none 0 0,.int .i64 0,.int .i64 0] 36)=wb:=⟨_,rfl⟩
  have hB:=YI #[.slice A0 l0.length c0,.string a1,.string a2,.slice A3 l3.length c3] (cellsS s vO vU) w
  rw [hwb,hG] at hB
  have HB:=ae.mk hB
  have HR0:=ae.mk hr0
  have HR3:=ae.mk hr3
  have HRF:=ae.mk hrF
  have HV:=ae.mk hv
  have HH:=ae.mk h
  have HCK:=ae.mk Zu
  have p0:wb.cell? ⟨G,0,none⟩=some (.slice A0 l0.length c0):=hB.m0.cell 0
  have p1:wb.cell? ⟨G,1,none⟩=some (.string a1):=hB.m0.cell 1
  have p2:wb.cell? ⟨G,2,none⟩=some (.string a2):=hB.m0.cell 2
  have p3:wb.cell? ⟨G,3,none⟩=some (.slice A3 l3.length c3):=hB.m0.cell 3
  clear hB hr0 hr3 hrF hv h Zu
  go_enter Tryd.func16,Tryd.ntmps16
  go_upto_region 999 with (fail)
  refine (az.calls k A0 c0 l0 a1 a2 A3 c3 l3 e1 e2 wb (Kd.bW HR0.out (by rw [hG];exact HB.out.mb)) hc0 (Kd.bW HR3.out (by rw [hG];exact HB.out.mb)) hc3 (Kd.bW HRF.out (by rw [hG];exact HB.out.mb)) HCK.out).mono ?_
  rintro e W ⟨rfl,hbb⟩
  have HB1:=ae.mk (HB.out.below hbb)
  have HVW:=ae.mk (HV.out.below (by rw [hG];exact HB1.out.mb))
  clear hbb HCK HB hwb p0 p1 p2 p3
  have p3:W.cell? ⟨G,3,none⟩=some (.slice A3 l3.length c3):=HB1.out.m0.cell 3
  have Fj:W.cell? ⟨G+1,22,none⟩=some (.int .i64 s.pc):=HB1.out.m1.cell 22
  have HH0:=HH.out
  unfold vY at HH0
  by_cases he2:e2=0
  case neg =>
    have hb2:(e2 == 0)=false:=beq_eq_false_iff_ne.2 he2
    have EZ:(e2 != 0)=true:=by simp [he2]
    rw [if_neg he2] at HH0
    obtain ⟨rfl,q⟩:=Prod.mk.inj (Option.some.inj HH0)
    obtain ⟨rfl,rfl⟩:=Prod.mk.inj q
    clear HH0 q HH
    go_upto_region 3 with (fail)
    have hs_:=HB1.out.m1
    have ui:=HB1.out.m2
    have Aj:=Lib.hid HB1.out.mb
    have nP:=HVW.out.rd.one s
    go_wp2_with (first|((with_reducible refine bI (N:=37) rfl ?_);refine wpList_load_row rfl 36 (.tmp 3) rfl (G+1) rfl 36 (cellsS s vO vU) (0,0) _ hs_ Tryd.underlying36 rfl (by kernel_rfl) ?_)|(skip;refine wpList_store_row rfl 36 (.tmp 4) (.tmp 37) rfl (G+1+1) (cellsS s vO vU) rfl rfl 36 _ ui (by kernel_rfl) rfl nP ?_))
    (try simp only [Exit.inBlock,Exit.then])
    refine bodyPost_ret (iH rfl _ _ (G+1+1) 36 _ (0,0) _ rfl (Bk.setRow ui (cellsS s vO vU)) Tryd.underlying36 rfl (by kernel_rfl)) rfl ?_
    have hb3:=dE (g:=G+2) Aj.out (by omega) (cellsS s vO vU)
    exact ⟨_,_,rfl,HV.out.below (by rw [hG];exact hb3),by first|exact hb3|(rw [hG];exact hb3)⟩
  subst he2
  rw [if_pos rfl] at HH0
  by_cases hp0:s.pc < 0
  case pos =>
    have hd0:decide (s.pc < 0)=true:=decide_eq_true hp0
    rw [if_pos hp0] at HH0
    obtain ⟨rfl,q⟩:=Prod.mk.inj (Option.some.inj HH0)
    obtain ⟨rfl,rfl⟩:=Prod.mk.inj q
    clear HH0 q HH hp0
    go_upto_region 3 with (fail)
    have hs_:=HB1.out.m1
    have ui:=HB1.out.m2
    have Aj:=Lib.hid HB1.out.mb
    have nP:=HVW.out.rd.one s
    go_wp2_with (first|((with_reducible refine bI (N:=37) rfl ?_);refine wpList_load_row rfl 36 (.tmp 3) rfl (G+1) rfl 36 (cellsS s vO vU) (0,0) _ hs_ Tryd.underlying36 rfl (by kernel_rfl) ?_)|(skip;refine wpList_store_row rfl 36 (.tmp 4) (.tmp 37) rfl (G+1+1) (cellsS s vO vU) rfl rfl 36 _ ui (by kernel_rfl) rfl nP ?_))
    (try simp only [Exit.inBlock,Exit.then])
    refine bodyPost_ret (iH rfl _ _ (G+1+1) 36 _ (0,0) _ rfl (Bk.setRow ui (cellsS s vO vU)) Tryd.underlying36 rfl (by kernel_rfl)) rfl ?_
    have hb3:=dE (g:=G+2) Aj.out (by omega) (cellsS s vO vU)
    exact ⟨_,_,rfl,HV.out.below (by rw [hG];exact hb3),by first|exact hb3|(rw [hG];exact hb3)⟩
  have hd0:decide (s.pc < 0)=false:=decide_eq_false hp0
  rw [if_neg hp0] at HH0
  by_cases hp1:(l3.length:Int) < s.pc
  case pos =>
    have hd1:decide ((l3.length:Int) < s.pc)=true:=decide_eq_true hp1
    have agK:decide (s.pc > (l3.length:Int))=true:=decide_eq_true hp1
    rw [if_pos hp1] at HH0
    obtain ⟨rfl,q⟩:=Prod.mk.inj (Option.some.inj HH0)
    obtain ⟨rfl,rfl⟩:=Prod.mk.inj q
    clear HH0 q HH hp0 hp1
    go_upto_region 3 with (fail)
    have hs_:=HB1.out.m1
    have ui:=HB1.out.m2
    have Aj:=Lib.hid HB1.out.mb
    have nP:=HVW.out.rd.one s
    go_wp2_with (first|((with_reducible refine bI (N:=37) rfl ?_);refine wpList_load_row rfl 36 (.tmp 3) rfl (G+1) rfl 36 (cellsS s vO vU) (0,0) _ hs_ Tryd.underlying36 rfl (by kernel_rfl) ?_)|(skip;refine wpList_store_row rfl 36 (.tmp 4) (.tmp 37) rfl (G+1+1) (cellsS s vO vU) rfl rfl 36 _ ui (by kernel_rfl) rfl nP ?_))
    (try simp only [Exit.inBlock,Exit.then])
    refine bodyPost_ret (iH rfl _ _ (G+1+1) 36 _ (0,0) _ rfl (Bk.setRow ui (cellsS s vO vU)) Tryd.underlying36 rfl (by kernel_rfl)) rfl ?_
    have hb3:=dE (g:=G+2) Aj.out (by omega) (cellsS s vO vU)
    exact ⟨_,_,rfl,HV.out.below (by rw [hG];exact hb3),by first|exact hb3|(rw [hG];exact hb3)⟩
  have hd1:decide ((l3.length:Int) < s.pc)=false:=decide_eq_false hp1
  have agK:decide (s.pc > (l3.length:Int))=false:=decide_eq_false hp1
  rw [if_neg hp1] at HH0
  by_cases hp2:s.pc=(l3.length:Int)
  case pos =>
    have hd2:(s.pc == (l3.length:Int))=true:=beq_iff_eq.2 hp2
    rw [if_pos hp2] at HH0
    obtain ⟨rfl,q⟩:=Prod.mk.inj (Option.some.inj HH0)
    obtain ⟨rfl,rfl⟩:=Prod.mk.inj q
    clear HH0 q HH hp0 hp1 hp2
    go_upto_region 5 with (fail)
    have hs_:=HB1.out.m1
    have ui:=HB1.out.m2
    have Aj:=Lib.hid HB1.out.mb
    have nP:=HVW.out.rd.one s
    go_wp2_with (first|((with_reducible refine bI (N:=44) rfl ?_);refine wpList_load_row rfl 36 (.tmp 3) rfl (G+1) rfl 36 (cellsS s vO vU) (0,0) _ hs_ Tryd.underlying36 rfl (by kernel_rfl) ?_)|(skip;refine wpList_store_row rfl 36 (.tmp 4) (.tmp 44) rfl (G+1+1) (cellsS s vO vU) rfl rfl 36 _ ui (by kernel_rfl) rfl nP ?_))
    (try simp only [Exit.inBlock,Exit.then])
    refine bodyPost_ret (iH rfl _ _ (G+1+1) 36 _ (0,0) _ rfl (Bk.setRow ui (cellsS s vO vU)) Tryd.underlying36 rfl (by kernel_rfl)) rfl ?_
    have hb3:=dE (g:=G+2) Aj.out (by omega) (cellsS s vO vU)
    exact ⟨_,_,rfl,HV.out.below (by rw [hG];exact hb3),by first|exact hb3|(rw [hG];exact hb3)⟩
  have hd2:(s.pc == (l3.length:Int))=false:=beq_eq_false_iff_ne.2 hp2
  rw [if_neg hp2] at HH0
  go_upto_region 6 with (fail)
  obtain ⟨⟨s5,e5⟩,hD,hfin⟩:=Option.bind_eq_some_iff.1 HH0
  have hD2:=hD
  unfold Uk at hD2
  split at hD2
  case isFalse=>cases hD2
  rename_i hg
  obtain ⟨g1,g2,g3,g4,g5⟩:=hg
  have hpos:0≤s.pc:=by omega
  have hlt:s.pc < l3.length:=by omega
  have hop0:=Uj hD2
  obtain ⟨ad,hA,d0,d1,d2,d3,d4⟩:=vM (Kd.bW HR3.out (by rw [hG];exact HB1.out.mb)) s.pc hpos hlt
  subst hA
  obtain ⟨op,eo⟩:=Int.eq_ofNat_of_zero_le hop0
  obtain ⟨a,ea⟩:=Int.eq_ofNat_of_zero_le g1
  obtain ⟨bb,eb⟩:=Int.eq_ofNat_of_zero_le g2
  obtain ⟨cc,ec⟩:=Int.eq_ofNat_of_zero_le g3
  obtain ⟨n,en⟩:∃ n,(aj l3 s.pc).f4=n:=⟨_,rfl⟩
  rw [eo,ea,eb,ec,en,Int.toNat_natCast,Int.toNat_natCast,Int.toNat_natCast] at hD2
  rw [eo] at d0
  rw [ea] at d1
  rw [eb] at d2
  rw [ec] at d3
  rw [en] at d4
  have HRX:=ae.mk (Le g4 g5 hD2)
  have xB:=ae.mk hfin
  clear HH0 HH hD hD2 hfin g1 g2 g3 g4 g5 hop0 eo ea eb ec en hp0 hp1 hp2
  have j0:(0≤s.pc)=True:=eq_true hpos
  have j1:(s.pc < (l3.length:Int))=True:=eq_true hlt
  clear hpos hlt
  obtain ⟨gI,Xc⟩:∃ g,W.heap.size=g:=⟨_,rfl⟩
  obtain ⟨wz,hwz⟩:∃ wz,W.alloc (.cells #[.int .u8 0,.int .u8 0,.int .u8 0,.int .u8 0,.int .i64 0] 39)=wz:=⟨_,rfl⟩
  have W9:Bk wz gI #[.int .u8 0,.int .u8 0,.int .u8 0,.int .u8 0,.int .i64 0] 39:=by rw [← hwz,← Xc];exact Bk.new W _ _
  have hbz:Below W.heap.size W wz:=by rw [← hwz];exact (Below.refl _ W).alloc (Nat.le_refl _) _
  have hI1:(#[.int .u8 op,.int .u8 a,.int .u8 bb,.int .u8 cc,.int .i64 n]:Array Value).all (·.oneCell')=true:=by simp [Value.oneCell']
  have hGI:G+3≤gI:=by rw [← Xc];exact HB1.out.sz
  have MF:=Lib.hid hbz
  clear hbz
  go_upto_region 7 with (skip;refine wpList_store_row rfl 39 (.tmp 9) (.tmp 50) rfl gI (#[.int .u8 op,.int .u8 a,.int .u8 bb,.int .u8 cc,.int .i64 n]) rfl rfl 39 _ W9 (by kernel_rfl) rfl hI1 ?_)
  clear d0 d1 d2 d3 d4 Fj p3 j0 j1
  have HB2:=ae.mk ((HB1.out.below MF.out).gB gI #[.int .u8 op,.int .u8 a,.int .u8 bb,.int .u8 cc,.int .i64 n] hGI)
  have HI2:=ae.mk (W9.setRow #[.int .u8 op,.int .u8 a,.int .u8 bb,.int .u8 cc,.int .i64 n])
  clear HB1 MF W9 hwz hI1 Xc HVW
  change Code.wp _ _ _ _ (wz.setRow gI #[.int .u8 op,.int .u8 a,.int .u8 bb,.int .u8 cc,.int .i64 n])
  generalize wz.setRow gI #[.int .u8 op,.int .u8 a,.int .u8 bb,.int .u8 cc,.int .i64 n]=W1 at HB2 HI2 ⊢
  obtain ⟨gT,hgT⟩:∃ g,W1.heap.size=g:=⟨_,rfl⟩
  obtain ⟨wy,hwy⟩:∃ wz,W1.alloc (.cells #[.int .i64 0,.int .i64 0,.int .i64 0,.int .i64 0,.int .i64 0,.int .i64 0,.int .i64 0,.int .i64 0,.int .i64 0,.int .i64 0,.int .i64 0,.int .i64 0,.int .i64 0,.int .i64 0,.int .i64 0,.int .i64 0,.int .i64 0,.int .i64 0,.int .i64 0,.int .i64 0,.slice none 0 0,.slice none 0 0,.int .i64 0,.int .i64 0] 36)=wz:=⟨_,rfl⟩
  have hzT:Bk wy gT #[.int .i64 0,.int .i64 0,.int .i64 0,.int .i64 0,.int .i64 0,.int .i64 0,.int .i64 0,.int .i64 0,.int .i64 0,.int .i64 0,.int .i64 0,.int .i64 0,.int .i64 0,.int .i64 0,.int .i64 0,.int .i64 0,.int .i64 0,.int .i64 0,.int .i64 0,.int .i64 0,.slice none 0 0,.slice none 0 0,.int .i64 0,.int .i64 0] 36:=by rw [← hwy,← hgT];exact Bk.new W1 _ _
  have hby:Below W1.heap.size W1 wy:=by rw [← hwy];exact (Below.refl _ W1).alloc (Nat.le_refl _) _
  have ZB:G+3≤gT:=by rw [← hgT];exact HB2.out.sz
  have hIT:gI ≠ gT:=by have:=HI2.out.lt;omega
  have hsS:=HB2.out.m1
  have hone:=HV.out.rd.one s
  have HBY:=Lib.hid hby
  clear hby
  go_upto_region 8 with (first|((with_reducible refine bI (N:=51) rfl ?_);refine wpList_load_row rfl 36 (.tmp 3) rfl (G+1) rfl 36 (cellsS s vO vU) (0,0) _ hsS Tryd.underlying36 rfl (by kernel_rfl) ?_)|(skip;refine wpList_store_row rfl 36 (.tmp 10) (.tmp 51) rfl gT (cellsS s vO vU) rfl rfl 36 _ hzT (by kernel_rfl) rfl hone ?_))
  have HB3:=ae.mk ((HB2.out.below HBY.out).gB gT (cellsS s vO vU) ZB)
  have HI3:=ae.mk ((HI2.out.below HBY.out).gB (h:=gT) (cellsS s vO vU) hIT)
  have HT3:=ae.mk (hzT.setRow (cellsS s vO vU))
  clear HB2 HI2 HBY hzT hwy hone hsS hgT
  change Code.wp _ _ _ _ (wy.setRow gT (cellsS s vO vU))
  generalize wy.setRow gT (cellsS s vO vU)=W2 at HB3 HI3 HT3 ⊢
  have Fj:W2.cell? ⟨G+1,22,none⟩=some (.int .i64 s.pc):=HB3.out.m1.cell 22
  have ct:W2.cell? ⟨gT,22,none⟩=some (.int .i64 s.pc):=HT3.out.cell 22
  have ft:=HT3.out.fr 22
  go_upto_region 9 with (fail)
  clear Fj ct ft
  have HB4:=ae.mk (HB3.out.far gT 22 (.int .i64 (wrap64 (s.pc+1))) ZB)
  have HI4:=ae.mk (HI3.out.far (h:=gT) 22 (.int .i64 (wrap64 (s.pc+1))) hIT)
  have HT4:=ae.mk (show Bk _ gT (cellsS { s with pc:=wrap64 (s.pc+1) } vO vU) 36 from HT3.out.set 22 (.int .i64 (wrap64 (s.pc+1))))
  clear HB3 HI3 HT3
  change Code.wp _ _ _ _ (W2.setCell ⟨gT,22,none⟩ (.int .i64 (wrap64 (s.pc+1))))
  generalize W2.setCell ⟨gT,22,none⟩ (.int .i64 (wrap64 (s.pc+1)))=W3 at HB4 HI4 HT4 ⊢
  have cst:W3.cell? ⟨G+1,23,none⟩=some (.int .i64 s.steps):=HB4.out.m1.cell 23
  have ct:W3.cell? ⟨gT,23,none⟩=some (.int .i64 s.steps):=HT4.out.cell 23
  have ft:=HT4.out.fr 23
  go_upto_region 10 with (fail)
  clear cst ct ft
  have Es:=ae.mk (HB4.out.far gT 23 (.int .i64 (wrap64 (s.steps+1))) ZB)
  have UC:=ae.mk (HI4.out.far (h:=gT) 23 (.int .i64 (wrap64 (s.steps+1))) hIT)
  have Aq:=ae.mk (show Bk _ gT (cellsS (bump s) vO vU) 36 from HT4.out.set 23 (.int .i64 (wrap64 (s.steps+1))))
  clear HB4 HI4 HT4
  change Code.wp _ _ _ _ (W3.setCell ⟨gT,23,none⟩ (.int .i64 (wrap64 (s.steps+1))))
  generalize W3.setCell ⟨gT,23,none⟩ (.int .i64 (wrap64 (s.steps+1)))=W4 at Es UC Aq ⊢
  have i0:W4.cell? ⟨gI,0,none⟩=some (.int .u8 op):=UC.out.cell 0
  have i1:W4.cell? ⟨gI,1,none⟩=some (.int .u8 a):=UC.out.cell 1
  have i4:W4.cell? ⟨gI,4,none⟩=some (.int .i64 n):=UC.out.cell 4
  have hX:=HRX.out
  unfold YD at hX
  have Ak:=xB.out
  by_cases h3:op=3
  case pos =>
    rw [if_pos h3] at hX
    subst h3
    obtain ⟨rfl,rfl⟩:=Prod.mk.inj (Option.some.inj hX)
    rw [if_pos rfl] at Ak
    obtain ⟨rfl,q⟩:=Prod.mk.inj (Option.some.inj Ak)
    obtain ⟨rfl,rfl⟩:=Prod.mk.inj q
    clear hX Ak q HRX xB
    have ct:W4.cell? ⟨gT,22,none⟩=some (.int .i64 (bump s).pc):=Aq.out.cell 22
    have ft:=Aq.out.fr 22
    go_upto_region 13 with (fail)
    clear ct ft i0 i1 i4
    have Gg:=ae.mk (Es.out.far gT 22 (.int .i64 n) ZB)
    have OY:=ae.mk (show Bk _ gT (cellsS { bump s with pc:=n } vO vU) 36 from Aq.out.set 22 (.int .i64 n))
    clear Es UC Aq
    change Code.wp _ _ _ _ (W4.setCell ⟨gT,22,none⟩ (.int .i64 n))
    generalize W4.setCell ⟨gT,22,none⟩ (.int .i64 n)=W5 at Gg OY ⊢
    have hs_:=OY.out
    have ui:=Gg.out.m2
    have Aj:=Lib.hid Gg.out.mb
    have nP:=HV.out.rd.one { bump s with pc:=n }
    go_wp2_with (first|((with_reducible refine bI (N:=82) rfl ?_);refine wpList_load_row rfl 36 (.tmp 10) rfl gT rfl 36 (cellsS { bump s with pc:=n } vO vU) (0,0) _ hs_ Tryd.underlying36 rfl (by kernel_rfl) ?_)|(skip;refine wpList_store_row rfl 36 (.tmp 4) (.tmp 82) rfl (G+1+1) (cellsS { bump s with pc:=n } vO vU) rfl rfl 36 _ ui (by kernel_rfl) rfl nP ?_))
    (try simp only [Exit.inBlock,Exit.then])
    refine bodyPost_ret (iH rfl _ _ (G+1+1) 36 _ (0,0) _ rfl (Bk.setRow ui (cellsS { bump s with pc:=n } vO vU)) Tryd.underlying36 rfl (by kernel_rfl)) rfl ?_
    have hb3:=dE (g:=G+2) Aj.out (by omega) (cellsS { bump s with pc:=n } vO vU)
    exact ⟨_,_,rfl,(HV.out.below (by rw [hG];exact hb3)).as rfl rfl,by first|exact hb3|(rw [hG];exact hb3)⟩
  rw [if_neg h3] at hX
  have n3:((op:Int) == 3)=false:=beq_eq_false_iff_ne.2 (by omega)
  by_cases h4:op=4
  case pos =>
    rw [if_pos h4] at hX
    subst h4
    by_cases ha:a < 8
    case neg =>
      rw [if_neg ha] at hX
      cases hX
    rw [if_pos ha] at hX
    have hai:(a:Int) < 8:=by omega
    by_cases hz:s.x a=0
    case pos =>
      rw [if_pos hz] at hX
      obtain ⟨rfl,rfl⟩:=Prod.mk.inj (Option.some.inj hX)
      rw [if_pos rfl] at Ak
      obtain ⟨rfl,q⟩:=Prod.mk.inj (Option.some.inj Ak)
      obtain ⟨rfl,rfl⟩:=Prod.mk.inj q
      clear hX Ak q HRX xB
      have cx:W4.cell? ⟨G+1,a,none⟩=some (.int .i64 0):=by rw [Es.out.m1.VO a ha,hz]
      have ct:W4.cell? ⟨gT,22,none⟩=some (.int .i64 (bump s).pc):=Aq.out.cell 22
      have ft:=Aq.out.fr 22
      clear hz
      go_upto_region 13 with (fail)
      clear ct ft i0 i1 i4 cx
      have Gg:=ae.mk (Es.out.far gT 22 (.int .i64 n) ZB)
      have OY:=ae.mk (show Bk _ gT (cellsS { bump s with pc:=n } vO vU) 36 from Aq.out.set 22 (.int .i64 n))
      clear Es UC Aq
      change Code.wp _ _ _ _ (W4.setCell ⟨gT,22,none⟩ (.int .i64 n))
      generalize W4.setCell ⟨gT,22,none⟩ (.int .i64 n)=W5 at Gg OY ⊢
      have hs_:=OY.out
      have ui:=Gg.out.m2
      have Aj:=Lib.hid Gg.out.mb
      have nP:=HV.out.rd.one { bump s with pc:=n }
      go_wp2_with (first|((with_reducible refine bI (N:=82) rfl ?_);refine wpList_load_row rfl 36 (.tmp 10) rfl gT rfl 36 (cellsS { bump s with pc:=n } vO vU) (0,0) _ hs_ Tryd.underlying36 rfl (by kernel_rfl) ?_)|(skip;refine wpList_store_row rfl 36 (.tmp 4) (.tmp 82) rfl (G+1+1) (cellsS { bump s with pc:=n } vO vU) rfl rfl 36 _ ui (by kernel_rfl) rfl nP ?_))
      (try simp only [Exit.inBlock,Exit.then])
      refine bodyPost_ret (iH rfl _ _ (G+1+1) 36 _ (0,0) _ rfl (Bk.setRow ui (cellsS { bump s with pc:=n } vO vU)) Tryd.underlying36 rfl (by kernel_rfl)) rfl ?_
      have hb3:=dE (g:=G+2) Aj.out (by omega) (cellsS { bump s with pc:=n } vO vU)
      exact ⟨_,_,rfl,(HV.out.below (by rw [hG];exact hb3)).as rfl rfl,by first|exact hb3|(rw [hG];exact hb3)⟩
    case neg =>
      rw [if_neg hz] at hX
      obtain ⟨rfl,rfl⟩:=Prod.mk.inj (Option.some.inj hX)
      rw [if_pos rfl] at Ak
      obtain ⟨rfl,q⟩:=Prod.mk.inj (Option.some.inj Ak)
      obtain ⟨rfl,rfl⟩:=Prod.mk.inj q
      clear hX Ak q HRX xB
      have cx:W4.cell? ⟨G+1,a,none⟩=some (.int .i64 (s.x a)):=Es.out.m1.VO a ha
      have hzb:(s.x a == 0)=false:=beq_eq_false_iff_ne.2 hz
      clear hz
      go_upto_region 13 with (fail)
      clear i0 i1 i4 cx
      have hs_:=Aq.out
      have ui:=Es.out.m2
      have Aj:=Lib.hid Es.out.mb
      have nP:=HV.out.rd.one (bump s)
      go_wp2_with (first|((with_reducible refine bI (N:=82) rfl ?_);refine wpList_load_row rfl 36 (.tmp 10) rfl gT rfl 36 (cellsS (bump s) vO vU) (0,0) _ hs_ Tryd.underlying36 rfl (by kernel_rfl) ?_)|(skip;refine wpList_store_row rfl 36 (.tmp 4) (.tmp 82) rfl (G+1+1) (cellsS (bump s) vO vU) rfl rfl 36 _ ui (by kernel_rfl) rfl nP ?_))
      (try simp only [Exit.inBlock,Exit.then])
      refine bodyPost_ret (iH rfl _ _ (G+1+1) 36 _ (0,0) _ rfl (Bk.setRow ui (cellsS (bump s) vO vU)) Tryd.underlying36 rfl (by kernel_rfl)) rfl ?_
      have hb3:=dE (g:=G+2) Aj.out (by omega) (cellsS (bump s) vO vU)
      exact ⟨_,_,rfl,(HV.out.below (by rw [hG];exact hb3)).as rfl rfl,by first|exact hb3|(rw [hG];exact hb3)⟩
  rw [if_neg h4] at hX
  have n4:((op:Int) == 4)=false:=beq_eq_false_iff_ne.2 (by omega)
  clear h3 h4 i1 i4 HRX xB
  obtain ⟨⟨u,isU⟩,hU,hX⟩:=Option.bind_eq_some_iff.1 hX
  have HU:=ae.mk hU
  have HX:=ae.mk hX
  have xB:=ae.mk Ak
  have HVB:=ae.mk ((HV.out.below (by rw [hG];exact Es.out.mb)).as (s':=bump s) rfl rfl)
  have UX:=Aq.out
  have UY:=UC.out
  go_upto_region 999 with (first|((with_reducible refine bI (N:=84) rfl ?_);refine wpList_load_row rfl 36 (.tmp 10) rfl gT rfl 36 (cellsS (bump s) vO vU) (0,0) _ UX Tryd.underlying36 rfl (by kernel_rfl) ?_)|((with_reducible refine bI (N:=85) rfl ?_);refine wpList_load_row rfl 39 (.tmp 9) rfl gI rfl 39 (#[.int .u8 op,.int .u8 a,.int .u8 bb,.int .u8 cc,.int .i64 n]) (0,0) _ UY Tryd.underlying39 rfl (by kernel_rfl) ?_))
  refine (EJ (bump s) u isU vO vU op a bb cc n W4 HVB.out HU.out).mono ?_
  rintro e w5 ⟨AQ,AB,rfl,hv1,hb1⟩
  have Gg:=ae.mk (Es.out.below hb1)
  have HI6:=ae.mk (UC.out.below hb1)
  have OY:=ae.mk (Aq.out.below hb1)
  obtain ⟨gU,hgg⟩:∃ g,w5.heap.size=g:=⟨_,rfl⟩
  obtain ⟨wx,hxx⟩:∃ x,w5.alloc (.cells #[.int .i64 0,.int .i64 0,.int .i64 0,.int .i64 0,.int .i64 0,.int .i64 0,.int .i64 0,.int .i64 0,.int .i64 0,.int .i64 0,.int .i64 0,.int .i64 0,.int .i64 0,.int .i64 0,.int .i64 0,.int .i64 0,.int .i64 0,.int .i64 0,.int .i64 0,.int .i64 0,.slice none 0 0,.slice none 0 0,.int .i64 0,.int .i64 0] 36)=x:=⟨_,rfl⟩
  have hzz:Bk wx gU #[.int .i64 0,.int .i64 0,.int .i64 0,.int .i64 0,.int .i64 0,.int .i64 0,.int .i64 0,.int .i64 0,.int .i64 0,.int .i64 0,.int .i64 0,.int .i64 0,.int .i64 0,.int .i64 0,.int .i64 0,.int .i64 0,.int .i64 0,.int .i64 0,.int .i64 0,.int .i64 0,.slice none 0 0,.slice none 0 0,.int .i64 0,.int .i64 0] 36:=by rw [← hxx,← hgg];exact Bk.new _ _ _
  have hbx:Below w5.heap.size w5 wx:=by rw [← hxx];exact (Below.refl _ _).alloc (Nat.le_refl _) _
  have U3:G+3≤gU:=by rw [← hgg];exact Gg.out.sz
  have U2:gI ≠ gU:=by have:=HI6.out.lt;omega
  have U1:gT ≠ gU:=by have:=OY.out.lt;omega
  have hone:=hv1.rd.one u
  have uX:=Lib.hid hbx
  have KP:=Lib.hid hv1
  clear hv1 hb1 hbx UX UY Es UC Aq
  cases isU with
  | true =>
    have hX2:=HX.out
    rw [if_pos rfl] at hX2
    obtain ⟨rfl,rfl⟩:=Prod.mk.inj (Option.some.inj hX2)
    have hF2:=xB.out
    rw [if_pos rfl] at hF2
    obtain ⟨rfl,q⟩:=Prod.mk.inj (Option.some.inj hF2)
    obtain ⟨rfl,rfl⟩:=Prod.mk.inj q
    clear hX2 hF2 q HX xB
    go_upto_region 16 with (skip;refine wpList_store_row rfl 36 (.tmp 11) (.tmp 87) rfl gU (cellsS u AQ AB) rfl rfl 36 _ hzz (by kernel_rfl) rfl hone ?_)
    have Ei:=ae.mk ((KP.out.below uX.out).keep (Keep.setRow hzz (cellsS u AQ AB)))
    have L9:=ae.mk ((Gg.out.below uX.out).gB gU (cellsS u AQ AB) U3)
    have Yr:=ae.mk ((HI6.out.below uX.out).gB (h:=gU) (cellsS u AQ AB) U2)
    have Yp:=ae.mk ((OY.out.below uX.out).gB (h:=gU) (cellsS u AQ AB) U1)
    have F9:=ae.mk (hzz.setRow (cellsS u AQ AB))
    clear KP uX hzz hone hxx hgg Gg HI6 OY
    change Code.wp _ _ _ _ (wx.setRow gU (cellsS u AQ AB))
    generalize wx.setRow gU (cellsS u AQ AB)=W5 at Ei L9 Yr Yp F9 ⊢
    have hs_:=F9.out
    have ui:=L9.out.m2
    have Aj:=Lib.hid L9.out.mb
    have nP:=Ei.out.rd.one u
    go_wp2_with (first|((with_reducible refine bI (N:=90) rfl ?_);refine wpList_load_row rfl 36 (.tmp 11) rfl gU rfl 36 (cellsS u AQ AB) (0,0) _ hs_ Tryd.underlying36 rfl (by kernel_rfl) ?_)|(skip;refine wpList_store_row rfl 36 (.tmp 4) (.tmp 90) rfl (G+1+1) (cellsS u AQ AB) rfl rfl 36 _ ui (by kernel_rfl) rfl nP ?_))
    (try simp only [Exit.inBlock,Exit.then])
    refine bodyPost_ret (iH rfl _ _ (G+1+1) 36 _ (0,0) _ rfl (Bk.setRow ui (cellsS u AQ AB)) Tryd.underlying36 rfl (by kernel_rfl)) rfl ?_
    have hb3:=dE (g:=G+2) Aj.out (by omega) (cellsS u AQ AB)
    exact ⟨_,_,rfl,Ei.out.keep (Keep.setRow ui _),by first|exact hb3|(rw [hG];exact hb3)⟩
  | false =>
  have hX2:=HX.out
  rw [if_neg (by simp)] at hX2
  obtain ⟨⟨v,isV⟩,hV,hX3⟩:=Option.bind_eq_some_iff.1 hX2
  have HPV:=ae.mk hV
  replace HX:=ae.mk hX3
  clear hX2 hV hX3
  go_upto_region 17 with (skip;refine wpList_store_row rfl 36 (.tmp 11) (.tmp 87) rfl gU (cellsS u AQ AB) rfl rfl 36 _ hzz (by kernel_rfl) rfl hone ?_)
  have Ei:=ae.mk ((KP.out.below uX.out).keep (Keep.setRow hzz (cellsS u AQ AB)))
  have L9:=ae.mk ((Gg.out.below uX.out).gB gU (cellsS u AQ AB) U3)
  have Yr:=ae.mk ((HI6.out.below uX.out).gB (h:=gU) (cellsS u AQ AB) U2)
  have Yp:=ae.mk ((OY.out.below uX.out).gB (h:=gU) (cellsS u AQ AB) U1)
  have F9:=ae.mk (hzz.setRow (cellsS u AQ AB))
  clear KP uX hzz hone hxx hgg Gg HI6 OY
  change Code.wp _ _ _ _ (wx.setRow gU (cellsS u AQ AB))
  generalize wx.setRow gU (cellsS u AQ AB)=W5 at Ei L9 Yr Yp F9 ⊢
  clear Ei F9
  have p0:W5.cell? ⟨G,0,none⟩=some (.slice A0 l0.length c0):=L9.out.m0.cell 0
  have p1:W5.cell? ⟨G,1,none⟩=some (.string a1):=L9.out.m0.cell 1
  have p2:W5.cell? ⟨G,2,none⟩=some (.string a2):=L9.out.m0.cell 2
  have p3:W5.cell? ⟨G,3,none⟩=some (.slice (some ad) l3.length c3):=L9.out.m0.cell 3
  have hbw:Below w.heap.size w W5:=by rw [hG];exact L9.out.mb
  have HVP:=ae.mk ((HV.out.below hbw).as (s':=bump s) rfl rfl)
  have aaB:=ae.mk (Kd.bW HR0.out hbw)
  have aaA:=ae.mk (Kd.bW HR3.out hbw)
  clear hbw
  have UX:=Yp.out
  have UY:=Yr.out
  go_upto_region 999 with (first|((with_reducible refine bI (N:=93) rfl ?_);refine wpList_load_row rfl 36 (.tmp 10) rfl gT rfl 36 (cellsS (bump s) vO vU) (0,0) _ UX Tryd.underlying36 rfl (by kernel_rfl) ?_)|((with_reducible refine bI (N:=94) rfl ?_);refine wpList_load_row rfl 39 (.tmp 9) rfl gI rfl 39 (#[.int .u8 op,.int .u8 a,.int .u8 bb,.int .u8 cc,.int .i64 n]) (0,0) _ UY Tryd.underlying39 rfl (by kernel_rfl) ?_))
  refine (Cb k A0 c0 l0 a1 a2 (some ad) c3 l3 (bump s) v isV vO vU op a bb cc n W5 aaB.out hc0 aaA.out hc3 HVP.out HPV.out).mono ?_
  rintro e w6 ⟨AP,AA,rfl,hv1,hb1⟩
  have VC:=ae.mk (L9.out.below hb1)
  have HI8:=ae.mk (Yr.out.below hb1)
  have Vy:=ae.mk (Yp.out.below hb1)
  obtain ⟨gV,hgg⟩:∃ g,w6.heap.size=g:=⟨_,rfl⟩
  obtain ⟨Yh,hxx⟩:∃ x,w6.alloc (.cells #[.int .i64 0,.int .i64 0,.int .i64 0,.int .i64 0,.int .i64 0,.int .i64 0,.int .i64 0,.int .i64 0,.int .i64 0,.int .i64 0,.int .i64 0,.int .i64 0,.int .i64 0,.int .i64 0,.int .i64 0,.int .i64 0,.int .i64 0,.int .i64 0,.int .i64 0,.int .i64 0,.slice none 0 0,.slice none 0 0,.int .i64 0,.int .i64 0] 36)=x:=⟨_,rfl⟩
  have hzz:Bk Yh gV #[.int .i64 0,.int .i64 0,.int .i64 0,.int .i64 0,.int .i64 0,.int .i64 0,.int .i64 0,.int .i64 0,.int .i64 0,.int .i64 0,.int .i64 0,.int .i64 0,.int .i64 0,.int .i64 0,.int .i64 0,.int .i64 0,.int .i64 0,.int .i64 0,.int .i64 0,.int .i64 0,.slice none 0 0,.slice none 0 0,.int .i64 0,.int .i64 0] 36:=by rw [← hxx,← hgg];exact Bk.new _ _ _
  have hbx:Below w6.heap.size w6 Yh:=by rw [← hxx];exact (Below.refl _ _).alloc (Nat.le_refl _) _
  have U3:G+3≤gV:=by rw [← hgg];exact VC.out.sz
  have U2:gI ≠ gV:=by have:=HI8.out.lt;omega
  have U1:gT ≠ gV:=by have:=Vy.out.lt;omega
  have hone:=hv1.rd.one v
  have uX:=Lib.hid hbx
  have KP:=Lib.hid hv1
  clear hv1 hb1 hbx UX UY L9 Yr Yp
  clear p0 p1 p2 p3 HVP aaB aaA HPV
  cases isV with
  | true =>
    have hX2:=HX.out
    rw [if_pos rfl] at hX2
    obtain ⟨rfl,rfl⟩:=Prod.mk.inj (Option.some.inj hX2)
    have hF2:=xB.out
    rw [if_pos rfl] at hF2
    obtain ⟨rfl,q⟩:=Prod.mk.inj (Option.some.inj hF2)
    obtain ⟨rfl,rfl⟩:=Prod.mk.inj q
    clear hX2 hF2 q HX xB
    go_upto_region 19 with (skip;refine wpList_store_row rfl 36 (.tmp 13) (.tmp 96) rfl gV (cellsS v AP AA) rfl rfl 36 _ hzz (by kernel_rfl) rfl hone ?_)
    have Ei:=ae.mk ((KP.out.below uX.out).keep (Keep.setRow hzz (cellsS v AP AA)))
    have O9:=ae.mk ((VC.out.below uX.out).gB gV (cellsS v AP AA) U3)
    have Yq:=ae.mk ((HI8.out.below uX.out).gB (h:=gV) (cellsS v AP AA) U2)
    have Yo:=ae.mk ((Vy.out.below uX.out).gB (h:=gV) (cellsS v AP AA) U1)
    have F9:=ae.mk (hzz.setRow (cellsS v AP AA))
    clear KP uX hzz hone hxx hgg VC HI8 Vy
    change Code.wp _ _ _ _ (Yh.setRow gV (cellsS v AP AA))
    generalize Yh.setRow gV (cellsS v AP AA)=W6 at Ei O9 Yq Yo F9 ⊢
    have hs_:=F9.out
    have ui:=O9.out.m2
    have Aj:=Lib.hid O9.out.mb
    have nP:=Ei.out.rd.one v
    go_wp2_with (first|((with_reducible refine bI (N:=99) rfl ?_);refine wpList_load_row rfl 36 (.tmp 13) rfl gV rfl 36 (cellsS v AP AA) (0,0) _ hs_ Tryd.underlying36 rfl (by kernel_rfl) ?_)|(skip;refine wpList_store_row rfl 36 (.tmp 4) (.tmp 99) rfl (G+1+1) (cellsS v AP AA) rfl rfl 36 _ ui (by kernel_rfl) rfl nP ?_))
    (try simp only [Exit.inBlock,Exit.then])
    refine bodyPost_ret (iH rfl _ _ (G+1+1) 36 _ (0,0) _ rfl (Bk.setRow ui (cellsS v AP AA)) Tryd.underlying36 rfl (by kernel_rfl)) rfl ?_
    have hb3:=dE (g:=G+2) Aj.out (by omega) (cellsS v AP AA)
    exact ⟨_,_,rfl,Ei.out.keep (Keep.setRow ui _),by first|exact hb3|(rw [hG];exact hb3)⟩
  | false =>
  have hX2:=HX.out
  rw [if_neg (by simp)] at hX2
  replace HX:=ae.mk hX2
  clear hX2
  go_upto_region 20 with (skip;refine wpList_store_row rfl 36 (.tmp 13) (.tmp 96) rfl gV (cellsS v AP AA) rfl rfl 36 _ hzz (by kernel_rfl) rfl hone ?_)
  have Ei:=ae.mk ((KP.out.below uX.out).keep (Keep.setRow hzz (cellsS v AP AA)))
  have O9:=ae.mk ((VC.out.below uX.out).gB gV (cellsS v AP AA) U3)
  have Yq:=ae.mk ((HI8.out.below uX.out).gB (h:=gV) (cellsS v AP AA) U2)
  have Yo:=ae.mk ((Vy.out.below uX.out).gB (h:=gV) (cellsS v AP AA) U1)
  have F9:=ae.mk (hzz.setRow (cellsS v AP AA))
  clear KP uX hzz hone hxx hgg VC HI8 Vy
  change Code.wp _ _ _ _ (Yh.setRow gV (cellsS v AP AA))
  generalize Yh.setRow gV (cellsS v AP AA)=W6 at Ei O9 Yq Yo F9 ⊢
  clear Ei F9
  have hbw:Below w.heap.size w W6:=by rw [hG];exact O9.out.mb
  have HVP:=ae.mk ((HV.out.below hbw).as (s':=bump s) rfl rfl)
  clear hbw
  have UX:=Yo.out
  have UY:=Yq.out
  go_upto_region 999 with (first|((with_reducible refine bI (N:=101) rfl ?_);refine wpList_load_row rfl 36 (.tmp 10) rfl gT rfl 36 (cellsS (bump s) vO vU) (0,0) _ UX Tryd.underlying36 rfl (by kernel_rfl) ?_)|((with_reducible refine bI (N:=102) rfl ?_);refine wpList_load_row rfl 39 (.tmp 9) rfl gI rfl 39 (#[.int .u8 op,.int .u8 a,.int .u8 bb,.int .u8 cc,.int .i64 n]) (0,0) _ UY Tryd.underlying39 rfl (by kernel_rfl) ?_))
  refine (GH (bump s) s5 e5 vO vU op a bb cc n W6 HVP.out hsm.each HX.out).mono ?_
  rintro e w7 ⟨AL,Az,rfl,hv1,hb1⟩
  have Pe:=ae.mk (O9.out.below hb1)
  have O6:=ae.mk (Yq.out.below hb1)
  have OZ:=ae.mk (Yo.out.below hb1)
  obtain ⟨gM,hgg⟩:∃ g,w7.heap.size=g:=⟨_,rfl⟩
  obtain ⟨Yg,hxx⟩:∃ x,w7.alloc (.cells #[.int .i64 0,.int .i64 0,.int .i64 0,.int .i64 0,.int .i64 0,.int .i64 0,.int .i64 0,.int .i64 0,.int .i64 0,.int .i64 0,.int .i64 0,.int .i64 0,.int .i64 0,.int .i64 0,.int .i64 0,.int .i64 0,.int .i64 0,.int .i64 0,.int .i64 0,.int .i64 0,.slice none 0 0,.slice none 0 0,.int .i64 0,.int .i64 0] 36)=x:=⟨_,rfl⟩
  have hzz:Bk Yg gM #[.int .i64 0,.int .i64 0,.int .i64 0,.int .i64 0,.int .i64 0,.int .i64 0,.int .i64 0,.int .i64 0,.int .i64 0,.int .i64 0,.int .i64 0,.int .i64 0,.int .i64 0,.int .i64 0,.int .i64 0,.int .i64 0,.int .i64 0,.int .i64 0,.int .i64 0,.int .i64 0,.slice none 0 0,.slice none 0 0,.int .i64 0,.int .i64 0] 36:=by rw [← hxx,← hgg];exact Bk.new _ _ _
  have hbx:Below w7.heap.size w7 Yg:=by rw [← hxx];exact (Below.refl _ _).alloc (Nat.le_refl _) _
  have U3:G+3≤gM:=by rw [← hgg];exact Pe.out.sz
  have U2:gI ≠ gM:=by have:=O6.out.lt;omega
  have U1:gT ≠ gM:=by have:=OZ.out.lt;omega
  have hone:=hv1.rd.one s5
  have uX:=Lib.hid hbx
  have KP:=Lib.hid hv1
  clear hv1 hb1 hbx UX UY O9 Yq Yo
  clear HVP
  have hF2:=xB.out
  by_cases Yk:e5=0
  case pos =>
    rw [if_pos Yk] at hF2
    obtain ⟨rfl,q⟩:=Prod.mk.inj (Option.some.inj hF2)
    obtain ⟨rfl,rfl⟩:=Prod.mk.inj q
    subst Yk
    clear hF2 q HX xB
    go_upto_region 23 with (skip;refine wpList_store_row rfl 36 (.tmp 15) (.tmp 104) rfl gM (cellsS s5 AL Az) rfl rfl 36 _ hzz (by kernel_rfl) rfl hone ?_)
    have Ei:=ae.mk ((KP.out.below uX.out).keep (Keep.setRow hzz (cellsS s5 AL Az)))
    have FZ:=ae.mk ((Pe.out.below uX.out).gB gM (cellsS s5 AL Az) U3)
    have X4:=ae.mk ((O6.out.below uX.out).gB (h:=gM) (cellsS s5 AL Az) U2)
    have XX:=ae.mk ((OZ.out.below uX.out).gB (h:=gM) (cellsS s5 AL Az) U1)
    have F9:=ae.mk (hzz.setRow (cellsS s5 AL Az))
    clear KP uX hzz hone hxx hgg Pe O6 OZ
    change Code.wp _ _ _ _ (Yg.setRow gM (cellsS s5 AL Az))
    generalize Yg.setRow gM (cellsS s5 AL Az)=W7 at Ei FZ X4 XX F9 ⊢
    have hs_:=F9.out
    have ui:=FZ.out.m2
    have Aj:=Lib.hid FZ.out.mb
    have nP:=Ei.out.rd.one s5
    go_wp2_with (first|((with_reducible refine bI (N:=110) rfl ?_);refine wpList_load_row rfl 36 (.tmp 15) rfl gM rfl 36 (cellsS s5 AL Az) (0,0) _ hs_ Tryd.underlying36 rfl (by kernel_rfl) ?_)|(skip;refine wpList_store_row rfl 36 (.tmp 4) (.tmp 110) rfl (G+1+1) (cellsS s5 AL Az) rfl rfl 36 _ ui (by kernel_rfl) rfl nP ?_))
    (try simp only [Exit.inBlock,Exit.then])
    refine bodyPost_ret (iH rfl _ _ (G+1+1) 36 _ (0,0) _ rfl (Bk.setRow ui (cellsS s5 AL Az)) Tryd.underlying36 rfl (by kernel_rfl)) rfl ?_
    have hb3:=dE (g:=G+2) Aj.out (by omega) (cellsS s5 AL Az)
    exact ⟨_,_,rfl,Ei.out.keep (Keep.setRow ui _),by first|exact hb3|(rw [hG];exact hb3)⟩
  case neg =>
    have nb:(e5 == 0)=false:=beq_eq_false_iff_ne.2 Yk
    have nb':(e5 != 0)=true:=by simp [Yk]
    rw [if_neg Yk] at hF2
    obtain ⟨rfl,q⟩:=Prod.mk.inj (Option.some.inj hF2)
    obtain ⟨rfl,rfl⟩:=Prod.mk.inj q
    clear hF2 q HX xB Yk
    go_upto_region 22 with (skip;refine wpList_store_row rfl 36 (.tmp 15) (.tmp 104) rfl gM (cellsS s5 AL Az) rfl rfl 36 _ hzz (by kernel_rfl) rfl hone ?_)
    have Ei:=ae.mk ((KP.out.below uX.out).keep (Keep.setRow hzz (cellsS s5 AL Az)))
    have FZ:=ae.mk ((Pe.out.below uX.out).gB gM (cellsS s5 AL Az) U3)
    have X4:=ae.mk ((O6.out.below uX.out).gB (h:=gM) (cellsS s5 AL Az) U2)
    have XX:=ae.mk ((OZ.out.below uX.out).gB (h:=gM) (cellsS s5 AL Az) U1)
    have F9:=ae.mk (hzz.setRow (cellsS s5 AL Az))
    clear KP uX hzz hone hxx hgg Pe O6 OZ
    change Code.wp _ _ _ _ (Yg.setRow gM (cellsS s5 AL Az))
    generalize Yg.setRow gM (cellsS s5 AL Az)=W7 at Ei FZ X4 XX F9 ⊢
    have hs_:=FZ.out.m1
    have ui:=FZ.out.m2
    have Aj:=Lib.hid FZ.out.mb
    have nP:=HV.out.rd.one s
    go_wp2_with (first|((with_reducible refine bI (N:=108) rfl ?_);refine wpList_load_row rfl 36 (.tmp 3) rfl (G+1) rfl 36 (cellsS s vO vU) (0,0) _ hs_ Tryd.underlying36 rfl (by kernel_rfl) ?_)|(skip;refine wpList_store_row rfl 36 (.tmp 4) (.tmp 108) rfl (G+1+1) (cellsS s vO vU) rfl rfl 36 _ ui (by kernel_rfl) rfl nP ?_))
    (try simp only [Exit.inBlock,Exit.then])
    refine bodyPost_ret (iH rfl _ _ (G+1+1) 36 _ (0,0) _ rfl (Bk.setRow ui (cellsS s vO vU)) Tryd.underlying36 rfl (by kernel_rfl)) rfl ?_
    have hb3:=dE (g:=G+2) Aj.out (by omega) (cellsS s vO vU)
    exact ⟨_,_,rfl,HV.out.below (by first|(rw [hG];exact hb3)|exact hb3),by first|exact hb3|(rw [hG];exact hb3)⟩
end Go.Proofs.YtbmhmlgfpijmhaaDoor.P
end
section
namespace Go.Proofs.YtbmhmlgfpijmhaaDoor.P
open Go.RowKit Go.Proofs.af.bG Go.Proofs.af.dD Go.Proofs.af.dM
open Classical in
noncomputable def uO (k:Nat) (l0:List ByteArray) (a1 a2:ByteArray) (l3:List iG) (s:St):Option (St × Bool × Int):=if vN s then (az.f k l0 a1 a2 l3).bind fun c=>vY (PZ k l0 a1 a2 l3) l3 c.2 s else none
theorem MP {k:Nat} {l0:List ByteArray} {a1 a2:ByteArray} {l3:List iG} {s:St} {r:St × Bool × Int} (h:uO k l0 a1 a2 l3 s=some r):vN s∧∃ e1 e2,az.f k l0 a1 a2 l3=some (e1,e2)∧vY (PZ k l0 a1 a2 l3) l3 e2 s=some r:=by
  unfold uO at h
  split at h
  · obtain ⟨⟨e1,e2⟩,h1,h2⟩:=Option.bind_eq_some_iff.1 h
    exact ⟨‹_›,e1,e2,h1,h2⟩
  · cases h
theorem agc (w:World):qC Yn (.slice none 0 0) (.slice none 0 0) w :=
  ⟨⟨none,0,[],rfl,Nat.le_refl _,rfl,fun wF _=>Kd.VI kH wF,fun j hj=>absurd hj (Nat.not_lt_zero j)⟩,none,0,rfl,Nat.le_refl _,fun wF _=>Kd.VI (Kd.int .i64) wF⟩
end Go.Proofs.YtbmhmlgfpijmhaaDoor.P
end
end
