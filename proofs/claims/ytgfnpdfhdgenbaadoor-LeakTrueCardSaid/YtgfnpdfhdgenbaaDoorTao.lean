/- Parts of the proof of LeakTrue: what the functions that it reaches compute, and plain facts about that. -/
import Derived.Test.YtgfnpdfhdgenbaaDoorTan
import Derived.Deep.OwnRows
import Derived.Test.YtgfnpdfhdgenbaaDoorTab
import Derived.LoopTactic
import Derived.BigQuiet
import Derived.Deep.QuietTactic
import Derived.Deep.RegionHeld3
import Derived.Deep.DrawnRows
import Derived.RegionTactic
import Derived.RegionCalls
import Derived.Lib.Hide
set_option linter.unusedVariables false
set_option linter.unusedSimpArgs false
section
section
namespace Go.Proofs.YtgfnpdfhdgenbaaDoor.P
open Go.RowKit Go.Proofs.ae.bf Go.Proofs.ae.bY Go.Proofs.ae.cZ
def Wx (s:St) (op a b c:Nat) (n:Int):Option (St × Bool) :=
  if op=1 then if a < 8 then some ({ s with x:=upd s.x a n },true) else none
  else if op=2 then if a < 8∧b < 8∧c < 8 then some ({ s with x:=upd s.x a (wrap64 (s.x b+s.x c)) },true) else none
  else if op=15 then if a < 8∧b < 8∧c < 8 then some ({ s with x:=upd s.x a (if s.p b=s.p c then 1 else 0) },true) else none
  else if op=14 then if a < 8∧s.out.length≤1000000 then some ({ s with out:=s.out++[s.x a] },true) else none
  else some (s,false)
def qU (s:St) (op a b:Nat) (n:Int):Option (St × Int) :=
  if a < 8∧b < 8∧s.aK.length≤1000000 then
    if op=8 then if s.p b=0 then some (s,9) else if D9 s (s.p b) n then some ({ s with x:=upd s.x a (rd (rowOf s (s.p b)) n) },0) else none
    else if op=10 then if s.p b=0 then some (s,9) else if D9 s (s.p b) n then some ({ s with p:=upd s.p a (rd (rowOf s (s.p b)) n) },0) else none
    else if op=9 then if s.p a=0 then some (s,9) else if D9 s (s.p a) n then some ({ s with aK:=s.aK.set (s.p a - 1).toNat ((rowOf s (s.p a)).set n.toNat (s.x b)) },0) else none
    else if op=11 then if s.p a=0 then some (s,9) else if D9 s (s.p a) n then some ({ s with aK:=s.aK.set (s.p a - 1).toNat ((rowOf s (s.p a)).set n.toNat (s.p b)) },0) else none
    else none
  else none
def Yz (sz:Int→Option Int) (s:St) (op a b c:Nat) (n:Int):Option (St × Int) :=
  if op=3 then some ({ bump s with pc:=n },0)
  else if op=4 then if a < 8 then if s.x a=0 then some ({ bump s with pc:=n },0) else some (bump s,0) else none
  else (Wx (bump s) op a b c n).bind fun u=>if u.2=true then some (u.1,0) else (Gi sz (bump s) op a b).bind fun v=>if v.2=true then some (v.1,0) else qU (bump s) op a b n
theorem Et (s s':St) (is:Bool) (vO vU:Value) (op a bb cc:Nat) (n:Int) (w:World) (hv:nK s vO vU w) (h:Wx s op a bb cc n=some (s',is)) :
    Calls Tryd.prog 19 #[.agg (cellsS s vO vU),.agg #[.int .u8 op,.int .u8 a,.int .u8 bb,.int .u8 cc,.int .i64 n]] w fun e w'=>∃ o5 oZ,e=.returned (.tuple #[.agg (cellsS s' o5 oZ),.bool is])∧nK s' o5 oZ w'∧Below w.heap.size w w':=by
  unfold Wx at h
  by_cases h1:op=1
  · rw [if_pos h1] at h
    subst h1
    by_cases hc:a < 8
    · rw [if_pos hc] at h
      obtain ⟨rfl,rfl⟩:=Prod.mk.inj (Option.some.inj h)
      exact Ls s vO vU a bb cc n hc w hv
    · rw [if_neg hc] at h
      cases h
  rw [if_neg h1] at h
  by_cases h2:op=2
  · rw [if_pos h2] at h
    subst h2
    by_cases hc:a < 8∧bb < 8∧cc < 8
    · rw [if_pos hc] at h
      obtain ⟨rfl,rfl⟩:=Prod.mk.inj (Option.some.inj h)
      exact Lr s vO vU a bb cc n hc.1 hc.2.1 hc.2.2 w hv
    · rw [if_neg hc] at h
      cases h
  rw [if_neg h2] at h
  by_cases h15:op=15
  · rw [if_pos h15] at h
    subst h15
    by_cases hc:a < 8∧bb < 8∧cc < 8
    · rw [if_pos hc] at h
      obtain ⟨rfl,rfl⟩:=Prod.mk.inj (Option.some.inj h)
      by_cases hz:s.p bb=s.p cc
      · rw [if_pos hz]
        exact zg s vO vU a bb cc n hc.1 hc.2.1 hc.2.2 hz w hv
      · rw [if_neg hz]
        exact Aa s vO vU a bb cc n hc.1 hc.2.1 hc.2.2 hz w hv
    · rw [if_neg hc] at h
      cases h
  rw [if_neg h15] at h
  by_cases Yj:op=14
  · rw [if_pos Yj] at h
    subst Yj
    by_cases hc:a < 8∧s.out.length≤1000000
    · rw [if_pos hc] at h
      obtain ⟨rfl,rfl⟩:=Prod.mk.inj (Option.some.inj h)
      exact Gv s vO vU a bb cc n hc.1 hc.2 w hv
    · rw [if_neg hc] at h
      cases h
  rw [if_neg Yj] at h
  obtain ⟨rfl,rfl⟩:=Prod.mk.inj (Option.some.inj h)
  exact BX s vO vU op a bb cc n h1 h2 h15 Yj w hv
theorem D9.open {s:St} {o n:Int} (h:D9 s o n):∃ k m:Nat,o=(k:Int)+1∧k < s.aK.length∧s.aK[k]? = some (rowOf s o)∧n=m∧m < (rowOf s o).length∧(o - 1).toNat=k∧n.toNat=m:=by
  obtain ⟨h1,h2,h3,h4⟩:=h
  refine ⟨(o - 1).toNat,n.toNat,by omega,by omega,?_,by omega,by omega,rfl,rfl⟩
  unfold rowOf
  rw [List.getD_eq_getElem?_getD,List.getElem?_eq_getElem (by omega)]
  rfl
theorem Gx (s s':St) (e':Int) (vO vU:Value) (op a bb cc:Nat) (n:Int) (w:World) (hv:nK s vO vU w) (hrow:∀ j (hj:j < s.aK.length),(s.aK[j]).length≤1000000) (h:qU s op a bb n=some (s',e')) :
    Calls Tryd.prog 21 #[.agg (cellsS s vO vU),.agg #[.int .u8 op,.int .u8 a,.int .u8 bb,.int .u8 cc,.int .i64 n]] w fun e w'=>∃ o5 oZ,e=.returned (.tuple #[.agg (cellsS s' o5 oZ),.int .i64 e'])∧nK s' o5 oZ w'∧Below w.heap.size w w':=by
  unfold qU at h
  by_cases hc:a < 8∧bb < 8∧s.aK.length≤1000000
  case neg =>
    rw [if_neg hc] at h
    cases h
  rw [if_pos hc] at h
  obtain ⟨ha,hb,hl⟩:=hc
  by_cases h8:op=8
  · rw [if_pos h8] at h
    subst h8
    by_cases hz:s.p bb=0
    · rw [if_pos hz] at h
      obtain ⟨rfl,rfl⟩:=Prod.mk.inj (Option.some.inj h)
      exact Gz s vO vU a bb cc n hb hz w hv
    rw [if_neg hz] at h
    by_cases hF:D9 s (s.p bb) n
    · rw [if_pos hF] at h
      obtain ⟨rfl,rfl⟩:=Prod.mk.inj (Option.some.inj h)
      obtain ⟨k,m,e1,e2,e3,e4,e5,e6,e7⟩:=hF.open
      exact YM s vO vU a bb cc n ha hb k m (rowOf s (s.p bb)) e1 e2 hl e3 e4 e5 w hv
    · rw [if_neg hF] at h
      cases h
  rw [if_neg h8] at h
  by_cases h10:op=10
  · rw [if_pos h10] at h
    subst h10
    by_cases hz:s.p bb=0
    · rw [if_pos hz] at h
      obtain ⟨rfl,rfl⟩:=Prod.mk.inj (Option.some.inj h)
      exact Ey s vO vU a bb cc n hb hz w hv
    rw [if_neg hz] at h
    by_cases hF:D9 s (s.p bb) n
    · rw [if_pos hF] at h
      obtain ⟨rfl,rfl⟩:=Prod.mk.inj (Option.some.inj h)
      obtain ⟨k,m,e1,e2,e3,e4,e5,e6,e7⟩:=hF.open
      exact WC s vO vU a bb cc n ha hb k m (rowOf s (s.p bb)) e1 e2 hl e3 e4 e5 w hv
    · rw [if_neg hF] at h
      cases h
  rw [if_neg h10] at h
  have hlen:∀ {k:Nat} {row:List Int},s.aK[k]? = some row→row.length≤1000000:=fun {k row} hk=>by
    obtain ⟨hk',rfl⟩:=List.getElem?_eq_some_iff.1 hk
    exact hrow k hk'
  by_cases h9:op=9
  · rw [if_pos h9] at h
    subst h9
    by_cases hz:s.p a=0
    · rw [if_pos hz] at h
      obtain ⟨rfl,rfl⟩:=Prod.mk.inj (Option.some.inj h)
      exact Gy s vO vU a bb cc n ha hz w hv
    rw [if_neg hz] at h
    by_cases hF:D9 s (s.p a) n
    · rw [if_pos hF] at h
      obtain ⟨rfl,rfl⟩:=Prod.mk.inj (Option.some.inj h)
      obtain ⟨k,m,e1,e2,e3,e4,e5,e6,e7⟩:=hF.open
      rw [e6]
      exact YL s vO vU a bb cc n ha hb k m (rowOf s (s.p a)) e1 e2 hl e3 e4 e5 (hlen e3) w hv
    · rw [if_neg hF] at h
      cases h
  rw [if_neg h9] at h
  by_cases h11:op=11
  · rw [if_pos h11] at h
    subst h11
    by_cases hz:s.p a=0
    · rw [if_pos hz] at h
      obtain ⟨rfl,rfl⟩:=Prod.mk.inj (Option.some.inj h)
      exact Ew s vO vU a bb cc n ha hz w hv
    rw [if_neg hz] at h
    by_cases hF:D9 s (s.p a) n
    · rw [if_pos hF] at h
      obtain ⟨rfl,rfl⟩:=Prod.mk.inj (Option.some.inj h)
      obtain ⟨k,m,e1,e2,e3,e4,e5,e6,e7⟩:=hF.open
      rw [e6]
      exact WB s vO vU a bb cc n ha hb k m (rowOf s (s.p a)) e1 e2 hl e3 e4 e5 (hlen e3) w hv
    · rw [if_neg hF] at h
      cases h
  rw [if_neg h11] at h
  cases h
theorem Le {sz:Int→Option Int} {s:St} {op a b c:Nat} {n:Int} {r:St × Int} (hO:s.aK.length≤1000000) (hU:s.out.length≤1000000) (h:qw sz s op a b c n=some r):Yz sz s op a b c n=some r:=by
  match op,h with
  | 0,h=>exact absurd h (by show ¬ (none:Option (St × Int))=some r;simp)
  | 1,h =>
    have h':(if a < 8 then some ({ bump s with x:=upd s.x a n },(0:Int)) else none)=some r:=h
    show (if a < 8 then some ({ bump s with x:=upd s.x a n },true) else none:Option (St × Bool)).bind (fun u=>if u.2=true then some (u.1,(0:Int)) else (Gi sz (bump s) 1 a b).bind fun v=>if v.2=true then some (v.1,0) else qU (bump s) 1 a b n)=some r
    by_cases hc:a < 8
    · rw [if_pos hc] at h'
      rw [if_pos hc]
      exact h'
    · rw [if_neg hc] at h'
      cases h'
  | 2,h =>
    have h':(if a < 8∧b < 8∧c < 8 then some ({ bump s with x:=upd s.x a (wrap64 (s.x b+s.x c)) },(0:Int)) else none)=some r:=h
    show (if a < 8∧b < 8∧c < 8 then some ({ bump s with x:=upd s.x a (wrap64 (s.x b+s.x c)) },true) else none:Option (St × Bool)).bind (fun u=>if u.2=true then some (u.1,(0:Int)) else (Gi sz (bump s) 2 a b).bind fun v=>if v.2=true then some (v.1,0) else qU (bump s) 2 a b n)=some r
    by_cases hc:a < 8∧b < 8∧c < 8
    · rw [if_pos hc] at h'
      rw [if_pos hc]
      exact h'
    · rw [if_neg hc] at h'
      cases h'
  | 3,h=>exact h
  | 4,h=>exact h
  | 5,h =>
    have h':(if a < 8 then (sz a).bind fun z=>if 0≤z∧z≤1000000 then some ({ bump s with aK:=s.aK++[List.replicate z.toNat 0],p:=upd s.p a ((s.aK.length:Int)+1) },(0:Int)) else none else none)=some r:=h
    show (some (bump s,false):Option (St × Bool)).bind (fun u=>if u.2=true then some (u.1,(0:Int)) else (if a < 8∧s.aK.length≤1000000 then (sz a).bind fun z=>if 0≤z∧z≤1000000 then some ({ bump s with aK:=s.aK++[List.replicate z.toNat 0],p:=upd s.p a ((s.aK.length:Int)+1) },true) else none else none:Option (St × Bool)).bind fun v=>if v.2=true then some (v.1,0) else qU (bump s) 5 a b n)=some r
    by_cases hc:a < 8
    · rw [if_pos hc] at h'
      rw [if_pos ⟨hc,hO⟩]
      obtain ⟨z,hz,h2⟩:=Option.bind_eq_some_iff.1 h'
      rw [hz,Option.bind_some,Option.bind_some]
      by_cases hz0:0≤z∧z≤1000000
      · rw [if_pos hz0] at h2 ⊢
        exact h2
      · rw [if_neg hz0] at h2
        cases h2
    · rw [if_neg hc] at h'
      cases h'
  | 6,h =>
    have h':(if a < 8 then some ({ bump s with p:=upd s.p a 0 },(0:Int)) else none)=some r:=h
    show (some (bump s,false):Option (St × Bool)).bind (fun u=>if u.2=true then some (u.1,(0:Int)) else (if a < 8 then some ({ bump s with p:=upd s.p a 0 },true) else none:Option (St × Bool)).bind fun v=>if v.2=true then some (v.1,0) else qU (bump s) 6 a b n)=some r
    by_cases hc:a < 8
    · rw [if_pos hc] at h'
      rw [if_pos hc]
      exact h'
    · rw [if_neg hc] at h'
      cases h'
  | 7,h =>
    have h':(if a < 8∧b < 8 then some ({ bump s with p:=upd s.p a (s.p b) },(0:Int)) else none)=some r:=h
    show (some (bump s,false):Option (St × Bool)).bind (fun u=>if u.2=true then some (u.1,(0:Int)) else (if a < 8∧b < 8 then some ({ bump s with p:=upd s.p a (s.p b) },true) else none:Option (St × Bool)).bind fun v=>if v.2=true then some (v.1,0) else qU (bump s) 7 a b n)=some r
    by_cases hc:a < 8∧b < 8
    · rw [if_pos hc] at h'
      rw [if_pos hc]
      exact h'
    · rw [if_neg hc] at h'
      cases h'
  | 8,h =>
    by_cases hc:a < 8∧b < 8
    · have e1:qw sz s (8:Nat) a b c n=(if s.p b=0 then some (bump s,(9:Int)) else _):=if_pos hc
      have e2:qU (bump s) 8 a b n=(if s.p b=0 then some (bump s,(9:Int)) else _):=if_pos ⟨hc.1,hc.2,hO⟩
      show qU (bump s) 8 a b n=some r
      rw [e2]
      rw [e1] at h
      exact h
    · have e1:qw sz s (8:Nat) a b c n=none:=if_neg hc
      rw [e1] at h
      cases h
  | 9,h =>
    by_cases hc:a < 8∧b < 8
    · have e1:qw sz s (9:Nat) a b c n=(if s.p a=0 then some (bump s,(9:Int)) else _):=if_pos hc
      have e2:qU (bump s) 9 a b n=(if s.p a=0 then some (bump s,(9:Int)) else _):=if_pos ⟨hc.1,hc.2,hO⟩
      show qU (bump s) 9 a b n=some r
      rw [e2]
      rw [e1] at h
      exact h
    · have e1:qw sz s (9:Nat) a b c n=none:=if_neg hc
      rw [e1] at h
      cases h
  | 10,h =>
    by_cases hc:a < 8∧b < 8
    · have e1:qw sz s (10:Nat) a b c n=(if s.p b=0 then some (bump s,(9:Int)) else _):=if_pos hc
      have e2:qU (bump s) 10 a b n=(if s.p b=0 then some (bump s,(9:Int)) else _):=if_pos ⟨hc.1,hc.2,hO⟩
      show qU (bump s) 10 a b n=some r
      rw [e2]
      rw [e1] at h
      exact h
    · have e1:qw sz s (10:Nat) a b c n=none:=if_neg hc
      rw [e1] at h
      cases h
  | 11,h =>
    by_cases hc:a < 8∧b < 8
    · have e1:qw sz s (11:Nat) a b c n=(if s.p a=0 then some (bump s,(9:Int)) else _):=if_pos hc
      have e2:qU (bump s) 11 a b n=(if s.p a=0 then some (bump s,(9:Int)) else _):=if_pos ⟨hc.1,hc.2,hO⟩
      show qU (bump s) 11 a b n=some r
      rw [e2]
      rw [e1] at h
      exact h
    · have e1:qw sz s (11:Nat) a b c n=none:=if_neg hc
      rw [e1] at h
      cases h
  | 12,h =>
    have h':(if a < 8∧b < 4 then some ({ bump s with p:=upd s.p a (s.g b) },(0:Int)) else none)=some r:=h
    show (some (bump s,false):Option (St × Bool)).bind (fun u=>if u.2=true then some (u.1,(0:Int)) else (if a < 8∧b < 4 then some ({ bump s with p:=upd s.p a (s.g b) },true) else none:Option (St × Bool)).bind fun v=>if v.2=true then some (v.1,0) else qU (bump s) 12 a b n)=some r
    by_cases hc:a < 8∧b < 4
    · rw [if_pos hc] at h'
      rw [if_pos hc]
      exact h'
    · rw [if_neg hc] at h'
      cases h'
  | 13,h =>
    have h':(if a < 4∧b < 8 then some ({ bump s with g:=upd s.g a (s.p b) },(0:Int)) else none)=some r:=h
    show (some (bump s,false):Option (St × Bool)).bind (fun u=>if u.2=true then some (u.1,(0:Int)) else (if a < 4∧b < 8 then some ({ bump s with g:=upd s.g a (s.p b) },true) else none:Option (St × Bool)).bind fun v=>if v.2=true then some (v.1,0) else qU (bump s) 13 a b n)=some r
    by_cases hc:a < 4∧b < 8
    · rw [if_pos hc] at h'
      rw [if_pos hc]
      exact h'
    · rw [if_neg hc] at h'
      cases h'
  | 14,h =>
    have h':(if a < 8 then some ({ bump s with out:=s.out++[s.x a] },(0:Int)) else none)=some r:=h
    show (if a < 8∧s.out.length≤1000000 then some ({ bump s with out:=s.out++[s.x a] },true) else none:Option (St × Bool)).bind (fun u=>if u.2=true then some (u.1,(0:Int)) else (Gi sz (bump s) 14 a b).bind fun v=>if v.2=true then some (v.1,0) else qU (bump s) 14 a b n)=some r
    by_cases hc:a < 8
    · rw [if_pos hc] at h'
      rw [if_pos ⟨hc,hU⟩]
      exact h'
    · rw [if_neg hc] at h'
      cases h'
  | 15,h =>
    have h':(if a < 8∧b < 8∧c < 8 then some ({ bump s with x:=upd s.x a (if s.p b=s.p c then 1 else 0) },(0:Int)) else none)=some r:=h
    show (if a < 8∧b < 8∧c < 8 then some ({ bump s with x:=upd s.x a (if s.p b=s.p c then 1 else 0) },true) else none:Option (St × Bool)).bind (fun u=>if u.2=true then some (u.1,(0:Int)) else (Gi sz (bump s) 15 a b).bind fun v=>if v.2=true then some (v.1,0) else qU (bump s) 15 a b n)=some r
    by_cases hc:a < 8∧b < 8∧c < 8
    · rw [if_pos hc] at h'
      rw [if_pos hc]
      exact h'
    · rw [if_neg hc] at h'
      cases h'
  | op+16,h =>
    exfalso
    unfold qw at h
    rw [if_neg (by omega),if_neg (by omega),if_neg (by omega),if_neg (by omega),if_neg (by omega),if_neg (by omega),if_neg (by omega),if_neg (by omega),if_neg (by omega),if_neg (by omega),if_neg (by omega),if_neg (by omega),if_neg (by omega),if_neg (by omega),if_neg (by omega)] at h
    cases h
end Go.Proofs.YtgfnpdfhdgenbaaDoor.P
end
section
namespace Go.Proofs.YtgfnpdfhdgenbaaDoor.P
open Go.RowKit Go.Proofs.ae.bf Go.Proofs.ae.bY Go.Proofs.ae.cZ
structure StepB (G:Nat) (P S:Array Value) (w W:World):Prop where
  m0:Bk W G P 25
  m1:Bk W (G+1) S 36
  m2:Bk W (G+2) #[.int .i64 0,.int .i64 0,.int .i64 0,.int .i64 0,.int .i64 0,.int .i64 0,.int .i64 0,.int .i64 0,.int .i64 0,.int .i64 0,.int .i64 0,.int .i64 0,.int .i64 0,.int .i64 0,.int .i64 0,.int .i64 0,.int .i64 0,.int .i64 0,.int .i64 0,.int .i64 0,.slice none 0 0,.slice none 0 0,.int .i64 0,.int .i64 0] 36
  mb:Below G w W
  sz:G+3≤W.heap.size
section
variable {G:Nat} {P S:Array Value} {w W W1:World}
theorem StepB.below (h:StepB G P S w W) (hb:Below W.heap.size W W1):StepB G P S w W1 :=
  ⟨h.m0.below hb,h.m1.below hb,h.m2.below hb,h.mb.trans (hb.mono (by have:=h.sz;omega)),Nat.le_trans h.sz hb.size⟩
theorem StepB.far (h:StepB G P S w W) (g j:Nat) (v:Value) (hg:G+3≤g):StepB G P S w (W.setCell ⟨g,j,none⟩ v) :=
  ⟨h.m0.far j v (by omega),h.m1.far j v (by omega),h.m2.far j v (by omega),h.mb.setCell (p:=⟨g,j,none⟩) (by show G≤g;omega) v,by simp [World.setCell];exact h.sz⟩
theorem StepB.fK (h:StepB G P S w W) (g:Nat) (cs:Array Value) (hg:G+3≤g):StepB G P S w (W.setRow g cs) :=
  ⟨h.m0.fK cs (by omega),h.m1.fK cs (by omega),h.m2.fK cs (by omega),dm h.mb (by omega) cs,by rw [size_setRow];exact h.sz⟩
end
theorem TU {sz:Int→Option Int} {s:St} {op:Int} {a b c:Nat} {n:Int} {r:St × Int} (h:qw sz s op a b c n=some r):0≤op:=by
  by_cases hp:0≤op
  · exact hp
  · exfalso
    unfold qw at h
    rw [if_neg (by omega),if_neg (by omega),if_neg (by omega),if_neg (by omega),if_neg (by omega),if_neg (by omega),if_neg (by omega),if_neg (by omega),if_neg (by omega),if_neg (by omega),if_neg (by omega),if_neg (by omega),if_neg (by omega),if_neg (by omega),if_neg (by omega)] at h
    cases h
theorem Keep.setRow {w:World} {g:Nat} {cs:Array Value} (h:Bk w g cs 36) (ds:Array Value):Keep w (w.setRow g ds):=fun k hk=>jw ds k (fun e=>by
  subst e
  obtain ⟨c,t,fr,h1,h2,_⟩:=hk
  have q:=h.symm.trans h1
  injection q with q
  injection q with _ q2 _
  exact h2 q2.symm)
theorem YE (P S:Array Value) (w:World):StepB w.heap.size P S w (((w.alloc (.cells P 25)).alloc (.cells S 36)).alloc (.cells #[.int .i64 0,.int .i64 0,.int .i64 0,.int .i64 0,.int .i64 0,.int .i64 0,.int .i64 0,.int .i64 0,.int .i64 0,.int .i64 0,.int .i64 0,.int .i64 0,.int .i64 0,.int .i64 0,.int .i64 0,.int .i64 0,.int .i64 0,.int .i64 0,.int .i64 0,.int .i64 0,.slice none 0 0,.slice none 0 0,.int .i64 0,.int .i64 0] 36)):=by
  have h1:=Bk.new w P 25
  have h2:=Bk.new (w.alloc (.cells P 25)) S 36
  have h3:=Bk.new ((w.alloc (.cells P 25)).alloc (.cells S 36)) #[.int .i64 0,.int .i64 0,.int .i64 0,.int .i64 0,.int .i64 0,.int .i64 0,.int .i64 0,.int .i64 0,.int .i64 0,.int .i64 0,.int .i64 0,.int .i64 0,.int .i64 0,.int .i64 0,.int .i64 0,.int .i64 0,.int .i64 0,.int .i64 0,.int .i64 0,.int .i64 0,.slice none 0 0,.slice none 0 0,.int .i64 0,.int .i64 0] 36
  rw [show (w.alloc (.cells P 25)).heap.size=w.heap.size+1 by simp] at h2
  rw [show ((w.alloc (.cells P 25)).alloc (.cells S 36)).heap.size=w.heap.size+2 by simp] at h3
  exact ⟨(h1.alloc _).alloc _,h2.alloc _,h3,(((Below.refl _ w).alloc (Nat.le_refl _) _).alloc (by simp) _).alloc (by simp;omega) _,by simp⟩
set_option maxRecDepth 100000 in
set_option maxHeartbeats 6400000 in
theorem zX (k:Nat) (A0:Option Addr) (c0:Nat) (l0:List ByteArray) (a1 a2:ByteArray) (A3:Option Addr) (c3:Nat) (l3:List gY) (s s':St) (d:Bool) (r2:Int) (vO vU:Value) (w:World) (hr0:Kd.C Kd.string w A0 l0.length l0) (hc0:l0.length≤c0) (hr3:Kd.C uU w A3 l3.length l3) (hc3:l3.length≤c3) (hrF:Kd.C zV w zW qJ.length qJ)
    (hv:nK s vO vU w) (hsm:tV s) (e1 e2:Int) (Y7:au.f k l0 a1 a2 l3=some (e1,e2)) (h:uw (VY k l0 a1 a2 l3) l3 e2 s=some (s',d,r2)) :
    Calls Tryd.prog 12 #[.agg #[.slice A0 l0.length c0,.string a1,.string a2,.slice A3 l3.length c3],.agg (cellsS s vO vU)] w fun e w'=>∃ o5 oZ,e=.returned (.tuple #[.agg (cellsS s' o5 oZ),.bool d,.int .i64 r2])∧nK s' o5 oZ w'∧Below w.heap.size w w':=by
  obtain ⟨G,hG⟩:∃ G,w.heap.size=G:=⟨_,rfl⟩
  obtain ⟨wb,hwb⟩:∃ wb,((w.alloc (.cells #[.slice A0 l0.length c0,.string a1,.string a2,.slice A3 l3.length c3] 25)).alloc (.cells (cellsS s vO vU) 36)).alloc (.cells #[.int .i64 0,.int .i64 0,.int .i64 0,.int .i64 0,.int .i64 0,.int .i64 0,.int .i64 0,.int .i64 0,.int .i64 0,.int .i64 0,.int .i64 0,.int .i64 0,.int .i64 0,.int .i64 0,.int .i64 0,.int .i64 0,.int .i64 0,.int .i64 0,.int .i64 0,.int .i64 0,.slice none 0 0,.slice none 0 0,.int .i64 0,.int .i64 0] 36)=wb:=⟨_,rfl⟩
  have hB:=YE #[.slice A0 l0.length c0,.string a1,.string a2,.slice A3 l3.length c3] (cellsS s vO vU) w
  rw [hwb,hG] at hB
  have HB:=af.mk hB
  have HR0:=af.mk hr0
  have HR3:=af.mk hr3
  have HRF:=af.mk hrF
  have HV:=af.mk hv
  have HH:=af.mk h
  have HCK:=af.mk Y7
  have p0:wb.cell? ⟨G,0,none⟩=some (.slice A0 l0.length c0):=hB.m0.cell 0
  have p1:wb.cell? ⟨G,1,none⟩=some (.string a1):=hB.m0.cell 1
  have p2:wb.cell? ⟨G,2,none⟩=some (.string a2):=hB.m0.cell 2
  have p3:wb.cell? ⟨G,3,none⟩=some (.slice A3 l3.length c3):=hB.m0.cell 3
  clear hB hr0 hr3 hrF hv h Y7
  go_enter Tryd.func12,Tryd.ntmps12
  go_upto_region 999 with (fail)
  refine (au.calls k A0 c0 l0 a1 a2 A3 c3 l3 e1 e2 wb (Kd.bQ HR0.out (by rw [hG];exact HB.out.mb)) hc0 (Kd.bQ HR3.out (by rw [hG];exact HB.out.mb)) hc3 (Kd.bQ HRF.out (by rw [hG];exact HB.out.mb)) HCK.out).mono ?_
  rintro e W ⟨rfl,hbb⟩
  have HB1:=af.mk (HB.out.below hbb)
  have HVW:=af.mk (HV.out.below (by rw [hG];exact HB1.out.mb))
  clear hbb HCK HB hwb p0 p1 p2 p3
  have p3:W.cell? ⟨G,3,none⟩=some (.slice A3 l3.length c3):=HB1.out.m0.cell 3
  have Vh:W.cell? ⟨G+1,22,none⟩=some (.int .i64 s.pc):=HB1.out.m1.cell 22
  have HH0:=HH.out
  unfold uw at HH0
  by_cases he2:e2=0
  case neg =>
    have hb2:(e2 == 0)=false:=beq_eq_false_iff_ne.2 he2
    have EJ:(e2 != 0)=true:=by simp [he2]
    rw [if_neg he2] at HH0
    obtain ⟨rfl,q⟩:=Prod.mk.inj (Option.some.inj HH0)
    obtain ⟨rfl,rfl⟩:=Prod.mk.inj q
    clear HH0 q HH
    go_upto_region 3 with (fail)
    have hs_:=HB1.out.m1
    have tu:=HB1.out.m2
    have Ae:=Lib.hid HB1.out.mb
    have mO:=HVW.out.rd.one s
    go_wp2_with (first|((with_reducible refine bD (N:=37) rfl ?_);refine wpList_load_row rfl 36 (.tmp 3) rfl (G+1) rfl 36 (cellsS s vO vU) (0,0) _ hs_ Tryd.underlying36 rfl (by kernel_rfl) ?_)|(skip;refine wpList_store_row rfl 36 (.tmp 4) (.tmp 37) rfl (G+1+1) (cellsS s vO vU) rfl rfl 36 _ tu (by kernel_rfl) rfl mO ?_))
    (try simp only [Exit.inBlock,Exit.then])
    refine bodyPost_ret (gQ rfl _ _ (G+1+1) 36 _ (0,0) _ rfl (Bk.setRow tu (cellsS s vO vU)) Tryd.underlying36 rfl (by kernel_rfl)) rfl ?_
    have hb3:=dm (g:=G+2) Ae.out (by omega) (cellsS s vO vU)
    exact ⟨_,_,rfl,HV.out.below (by rw [hG];exact hb3),by first|exact hb3|(rw [hG];exact hb3)⟩
  subst he2
  rw [if_pos rfl] at HH0
  by_cases hp0:s.pc < 0
  case pos =>
    have hd0:decide (s.pc < 0)=true:=decide_eq_true hp0
    rw [if_pos hp0] at HH0
    obtain ⟨rfl,q⟩:=Prod.mk.inj (Option.some.inj HH0)
    obtain ⟨rfl,rfl⟩:=Prod.mk.inj q
    clear HH0 q HH hp0
    go_upto_region 3 with (fail)
    have hs_:=HB1.out.m1
    have tu:=HB1.out.m2
    have Ae:=Lib.hid HB1.out.mb
    have mO:=HVW.out.rd.one s
    go_wp2_with (first|((with_reducible refine bD (N:=37) rfl ?_);refine wpList_load_row rfl 36 (.tmp 3) rfl (G+1) rfl 36 (cellsS s vO vU) (0,0) _ hs_ Tryd.underlying36 rfl (by kernel_rfl) ?_)|(skip;refine wpList_store_row rfl 36 (.tmp 4) (.tmp 37) rfl (G+1+1) (cellsS s vO vU) rfl rfl 36 _ tu (by kernel_rfl) rfl mO ?_))
    (try simp only [Exit.inBlock,Exit.then])
    refine bodyPost_ret (gQ rfl _ _ (G+1+1) 36 _ (0,0) _ rfl (Bk.setRow tu (cellsS s vO vU)) Tryd.underlying36 rfl (by kernel_rfl)) rfl ?_
    have hb3:=dm (g:=G+2) Ae.out (by omega) (cellsS s vO vU)
    exact ⟨_,_,rfl,HV.out.below (by rw [hG];exact hb3),by first|exact hb3|(rw [hG];exact hb3)⟩
  have hd0:decide (s.pc < 0)=false:=decide_eq_false hp0
  rw [if_neg hp0] at HH0
  by_cases hp1:(l3.length:Int) < s.pc
  case pos =>
    have hd1:decide ((l3.length:Int) < s.pc)=true:=decide_eq_true hp1
    have ag8:decide (s.pc > (l3.length:Int))=true:=decide_eq_true hp1
    rw [if_pos hp1] at HH0
    obtain ⟨rfl,q⟩:=Prod.mk.inj (Option.some.inj HH0)
    obtain ⟨rfl,rfl⟩:=Prod.mk.inj q
    clear HH0 q HH hp0 hp1
    go_upto_region 3 with (fail)
    have hs_:=HB1.out.m1
    have tu:=HB1.out.m2
    have Ae:=Lib.hid HB1.out.mb
    have mO:=HVW.out.rd.one s
    go_wp2_with (first|((with_reducible refine bD (N:=37) rfl ?_);refine wpList_load_row rfl 36 (.tmp 3) rfl (G+1) rfl 36 (cellsS s vO vU) (0,0) _ hs_ Tryd.underlying36 rfl (by kernel_rfl) ?_)|(skip;refine wpList_store_row rfl 36 (.tmp 4) (.tmp 37) rfl (G+1+1) (cellsS s vO vU) rfl rfl 36 _ tu (by kernel_rfl) rfl mO ?_))
    (try simp only [Exit.inBlock,Exit.then])
    refine bodyPost_ret (gQ rfl _ _ (G+1+1) 36 _ (0,0) _ rfl (Bk.setRow tu (cellsS s vO vU)) Tryd.underlying36 rfl (by kernel_rfl)) rfl ?_
    have hb3:=dm (g:=G+2) Ae.out (by omega) (cellsS s vO vU)
    exact ⟨_,_,rfl,HV.out.below (by rw [hG];exact hb3),by first|exact hb3|(rw [hG];exact hb3)⟩
  have hd1:decide ((l3.length:Int) < s.pc)=false:=decide_eq_false hp1
  have ag8:decide (s.pc > (l3.length:Int))=false:=decide_eq_false hp1
  rw [if_neg hp1] at HH0
  by_cases hp2:s.pc=(l3.length:Int)
  case pos =>
    have hd2:(s.pc == (l3.length:Int))=true:=beq_iff_eq.2 hp2
    rw [if_pos hp2] at HH0
    obtain ⟨rfl,q⟩:=Prod.mk.inj (Option.some.inj HH0)
    obtain ⟨rfl,rfl⟩:=Prod.mk.inj q
    clear HH0 q HH hp0 hp1 hp2
    go_upto_region 5 with (fail)
    have hs_:=HB1.out.m1
    have tu:=HB1.out.m2
    have Ae:=Lib.hid HB1.out.mb
    have mO:=HVW.out.rd.one s
    go_wp2_with (first|((with_reducible refine bD (N:=44) rfl ?_);refine wpList_load_row rfl 36 (.tmp 3) rfl (G+1) rfl 36 (cellsS s vO vU) (0,0) _ hs_ Tryd.underlying36 rfl (by kernel_rfl) ?_)|(skip;refine wpList_store_row rfl 36 (.tmp 4) (.tmp 44) rfl (G+1+1) (cellsS s vO vU) rfl rfl 36 _ tu (by kernel_rfl) rfl mO ?_))
    (try simp only [Exit.inBlock,Exit.then])
    refine bodyPost_ret (gQ rfl _ _ (G+1+1) 36 _ (0,0) _ rfl (Bk.setRow tu (cellsS s vO vU)) Tryd.underlying36 rfl (by kernel_rfl)) rfl ?_
    have hb3:=dm (g:=G+2) Ae.out (by omega) (cellsS s vO vU)
    exact ⟨_,_,rfl,HV.out.below (by rw [hG];exact hb3),by first|exact hb3|(rw [hG];exact hb3)⟩
  have hd2:(s.pc == (l3.length:Int))=false:=beq_eq_false_iff_ne.2 hp2
  rw [if_neg hp2] at HH0
  go_upto_region 6 with (fail)
  obtain ⟨⟨s5,e5⟩,hD,hfin⟩:=Option.bind_eq_some_iff.1 HH0
  have hD2:=hD
  unfold PD at hD2
  split at hD2
  case isFalse=>cases hD2
  rename_i hg
  obtain ⟨g1,g2,g3,g4,g5⟩:=hg
  have hpos:0≤s.pc:=by omega
  have hlt:s.pc < l3.length:=by omega
  have hop0:=TU hD2
  obtain ⟨ad,hA,d0,d1,d2,d3,d4⟩:=oP (Kd.bQ HR3.out (by rw [hG];exact HB1.out.mb)) s.pc hpos hlt
  subst hA
  obtain ⟨op,eo⟩:=Int.eq_ofNat_of_zero_le hop0
  obtain ⟨a,ea⟩:=Int.eq_ofNat_of_zero_le g1
  obtain ⟨bb,eb⟩:=Int.eq_ofNat_of_zero_le g2
  obtain ⟨cc,ec⟩:=Int.eq_ofNat_of_zero_le g3
  obtain ⟨n,en⟩:∃ n,(aC l3 s.pc).f4=n:=⟨_,rfl⟩
  rw [eo,ea,eb,ec,en,Int.toNat_natCast,Int.toNat_natCast,Int.toNat_natCast] at hD2
  rw [eo] at d0
  rw [ea] at d1
  rw [eb] at d2
  rw [ec] at d3
  rw [en] at d4
  have HRX:=af.mk (Le g4 g5 hD2)
  have wZ:=af.mk hfin
  clear HH0 HH hD hD2 hfin g1 g2 g3 g4 g5 hop0 eo ea eb ec en hp0 hp1 hp2
  have j0:(0≤s.pc)=True:=eq_true hpos
  have j1:(s.pc < (l3.length:Int))=True:=eq_true hlt
  clear hpos hlt
  obtain ⟨gI,hgI⟩:∃ g,W.heap.size=g:=⟨_,rfl⟩
  obtain ⟨wz,hwz⟩:∃ wz,W.alloc (.cells #[.int .u8 0,.int .u8 0,.int .u8 0,.int .u8 0,.int .i64 0] 45)=wz:=⟨_,rfl⟩
  have hzI:Bk wz gI #[.int .u8 0,.int .u8 0,.int .u8 0,.int .u8 0,.int .i64 0] 45:=by rw [← hwz,← hgI];exact Bk.new W _ _
  have hbz:Below W.heap.size W wz:=by rw [← hwz];exact (Below.refl _ W).alloc (Nat.le_refl _) _
  have hI1:(#[.int .u8 op,.int .u8 a,.int .u8 bb,.int .u8 cc,.int .i64 n]:Array Value).all (·.oneCell')=true:=by simp [Value.oneCell']
  have hGI:G+3≤gI:=by rw [← hgI];exact HB1.out.sz
  have MJ:=Lib.hid hbz
  clear hbz
  go_upto_region 7 with (skip;refine wpList_store_row rfl 45 (.tmp 9) (.tmp 50) rfl gI (#[.int .u8 op,.int .u8 a,.int .u8 bb,.int .u8 cc,.int .i64 n]) rfl rfl 45 _ hzI (by kernel_rfl) rfl hI1 ?_)
  clear d0 d1 d2 d3 d4 Vh p3 j0 j1
  have HB2:=af.mk ((HB1.out.below MJ.out).fK gI #[.int .u8 op,.int .u8 a,.int .u8 bb,.int .u8 cc,.int .i64 n] hGI)
  have HI2:=af.mk (hzI.setRow #[.int .u8 op,.int .u8 a,.int .u8 bb,.int .u8 cc,.int .i64 n])
  clear HB1 MJ hzI hwz hI1 hgI HVW
  change Code.wp _ _ _ _ (wz.setRow gI #[.int .u8 op,.int .u8 a,.int .u8 bb,.int .u8 cc,.int .i64 n])
  generalize wz.setRow gI #[.int .u8 op,.int .u8 a,.int .u8 bb,.int .u8 cc,.int .i64 n]=W1 at HB2 HI2 ⊢
  obtain ⟨gT,hgT⟩:∃ g,W1.heap.size=g:=⟨_,rfl⟩
  obtain ⟨wy,hwy⟩:∃ wz,W1.alloc (.cells #[.int .i64 0,.int .i64 0,.int .i64 0,.int .i64 0,.int .i64 0,.int .i64 0,.int .i64 0,.int .i64 0,.int .i64 0,.int .i64 0,.int .i64 0,.int .i64 0,.int .i64 0,.int .i64 0,.int .i64 0,.int .i64 0,.int .i64 0,.int .i64 0,.int .i64 0,.int .i64 0,.slice none 0 0,.slice none 0 0,.int .i64 0,.int .i64 0] 36)=wz:=⟨_,rfl⟩
  have hzT:Bk wy gT #[.int .i64 0,.int .i64 0,.int .i64 0,.int .i64 0,.int .i64 0,.int .i64 0,.int .i64 0,.int .i64 0,.int .i64 0,.int .i64 0,.int .i64 0,.int .i64 0,.int .i64 0,.int .i64 0,.int .i64 0,.int .i64 0,.int .i64 0,.int .i64 0,.int .i64 0,.int .i64 0,.slice none 0 0,.slice none 0 0,.int .i64 0,.int .i64 0] 36:=by rw [← hwy,← hgT];exact Bk.new W1 _ _
  have hby:Below W1.heap.size W1 wy:=by rw [← hwy];exact (Below.refl _ W1).alloc (Nat.le_refl _) _
  have Zf:G+3≤gT:=by rw [← hgT];exact HB2.out.sz
  have hIT:gI ≠ gT:=by have:=HI2.out.lt;omega
  have hsS:=HB2.out.m1
  have hone:=HV.out.rd.one s
  have HBY:=Lib.hid hby
  clear hby
  go_upto_region 8 with (first|((with_reducible refine bD (N:=51) rfl ?_);refine wpList_load_row rfl 36 (.tmp 3) rfl (G+1) rfl 36 (cellsS s vO vU) (0,0) _ hsS Tryd.underlying36 rfl (by kernel_rfl) ?_)|(skip;refine wpList_store_row rfl 36 (.tmp 10) (.tmp 51) rfl gT (cellsS s vO vU) rfl rfl 36 _ hzT (by kernel_rfl) rfl hone ?_))
  have HB3:=af.mk ((HB2.out.below HBY.out).fK gT (cellsS s vO vU) Zf)
  have HI3:=af.mk ((HI2.out.below HBY.out).fK (h:=gT) (cellsS s vO vU) hIT)
  have HT3:=af.mk (hzT.setRow (cellsS s vO vU))
  clear HB2 HI2 HBY hzT hwy hone hsS hgT
  change Code.wp _ _ _ _ (wy.setRow gT (cellsS s vO vU))
  generalize wy.setRow gT (cellsS s vO vU)=W2 at HB3 HI3 HT3 ⊢
  have Vh:W2.cell? ⟨G+1,22,none⟩=some (.int .i64 s.pc):=HB3.out.m1.cell 22
  have ct:W2.cell? ⟨gT,22,none⟩=some (.int .i64 s.pc):=HT3.out.cell 22
  have ft:=HT3.out.fr 22
  go_upto_region 9 with (fail)
  clear Vh ct ft
  have HB4:=af.mk (HB3.out.far gT 22 (.int .i64 (wrap64 (s.pc+1))) Zf)
  have HI4:=af.mk (HI3.out.far (h:=gT) 22 (.int .i64 (wrap64 (s.pc+1))) hIT)
  have HT4:=af.mk (show Bk _ gT (cellsS { s with pc:=wrap64 (s.pc+1) } vO vU) 36 from HT3.out.set 22 (.int .i64 (wrap64 (s.pc+1))))
  clear HB3 HI3 HT3
  change Code.wp _ _ _ _ (W2.setCell ⟨gT,22,none⟩ (.int .i64 (wrap64 (s.pc+1))))
  generalize W2.setCell ⟨gT,22,none⟩ (.int .i64 (wrap64 (s.pc+1)))=W3 at HB4 HI4 HT4 ⊢
  have cst:W3.cell? ⟨G+1,23,none⟩=some (.int .i64 s.steps):=HB4.out.m1.cell 23
  have ct:W3.cell? ⟨gT,23,none⟩=some (.int .i64 s.steps):=HT4.out.cell 23
  have ft:=HT4.out.fr 23
  go_upto_region 10 with (fail)
  clear cst ct ft
  have Ee:=af.mk (HB4.out.far gT 23 (.int .i64 (wrap64 (s.steps+1))) Zf)
  have Uu:=af.mk (HI4.out.far (h:=gT) 23 (.int .i64 (wrap64 (s.steps+1))) hIT)
  have Ap:=af.mk (show Bk _ gT (cellsS (bump s) vO vU) 36 from HT4.out.set 23 (.int .i64 (wrap64 (s.steps+1))))
  clear HB4 HI4 HT4
  change Code.wp _ _ _ _ (W3.setCell ⟨gT,23,none⟩ (.int .i64 (wrap64 (s.steps+1))))
  generalize W3.setCell ⟨gT,23,none⟩ (.int .i64 (wrap64 (s.steps+1)))=W4 at Ee Uu Ap ⊢
  have i0:W4.cell? ⟨gI,0,none⟩=some (.int .u8 op):=Uu.out.cell 0
  have i1:W4.cell? ⟨gI,1,none⟩=some (.int .u8 a):=Uu.out.cell 1
  have i4:W4.cell? ⟨gI,4,none⟩=some (.int .i64 n):=Uu.out.cell 4
  have hX:=HRX.out
  unfold Yz at hX
  have Ag:=wZ.out
  by_cases h3:op=3
  case pos =>
    rw [if_pos h3] at hX
    subst h3
    obtain ⟨rfl,rfl⟩:=Prod.mk.inj (Option.some.inj hX)
    rw [if_pos rfl] at Ag
    obtain ⟨rfl,q⟩:=Prod.mk.inj (Option.some.inj Ag)
    obtain ⟨rfl,rfl⟩:=Prod.mk.inj q
    clear hX Ag q HRX wZ
    have ct:W4.cell? ⟨gT,22,none⟩=some (.int .i64 (bump s).pc):=Ap.out.cell 22
    have ft:=Ap.out.fr 22
    go_upto_region 13 with (fail)
    clear ct ft i0 i1 i4
    have FP:=af.mk (Ee.out.far gT 22 (.int .i64 n) Zf)
    have OZ:=af.mk (show Bk _ gT (cellsS { bump s with pc:=n } vO vU) 36 from Ap.out.set 22 (.int .i64 n))
    clear Ee Uu Ap
    change Code.wp _ _ _ _ (W4.setCell ⟨gT,22,none⟩ (.int .i64 n))
    generalize W4.setCell ⟨gT,22,none⟩ (.int .i64 n)=W5 at FP OZ ⊢
    have hs_:=OZ.out
    have tu:=FP.out.m2
    have Ae:=Lib.hid FP.out.mb
    have mO:=HV.out.rd.one { bump s with pc:=n }
    go_wp2_with (first|((with_reducible refine bD (N:=82) rfl ?_);refine wpList_load_row rfl 36 (.tmp 10) rfl gT rfl 36 (cellsS { bump s with pc:=n } vO vU) (0,0) _ hs_ Tryd.underlying36 rfl (by kernel_rfl) ?_)|(skip;refine wpList_store_row rfl 36 (.tmp 4) (.tmp 82) rfl (G+1+1) (cellsS { bump s with pc:=n } vO vU) rfl rfl 36 _ tu (by kernel_rfl) rfl mO ?_))
    (try simp only [Exit.inBlock,Exit.then])
    refine bodyPost_ret (gQ rfl _ _ (G+1+1) 36 _ (0,0) _ rfl (Bk.setRow tu (cellsS { bump s with pc:=n } vO vU)) Tryd.underlying36 rfl (by kernel_rfl)) rfl ?_
    have hb3:=dm (g:=G+2) Ae.out (by omega) (cellsS { bump s with pc:=n } vO vU)
    exact ⟨_,_,rfl,(HV.out.below (by rw [hG];exact hb3)).as rfl rfl,by first|exact hb3|(rw [hG];exact hb3)⟩
  rw [if_neg h3] at hX
  have n3:((op:Int) == 3)=false:=beq_eq_false_iff_ne.2 (by omega)
  by_cases h4:op=4
  case pos =>
    rw [if_pos h4] at hX
    subst h4
    by_cases ha:a < 8
    case neg =>
      rw [if_neg ha] at hX
      cases hX
    rw [if_pos ha] at hX
    have hai:(a:Int) < 8:=by omega
    by_cases hz:s.x a=0
    case pos =>
      rw [if_pos hz] at hX
      obtain ⟨rfl,rfl⟩:=Prod.mk.inj (Option.some.inj hX)
      rw [if_pos rfl] at Ag
      obtain ⟨rfl,q⟩:=Prod.mk.inj (Option.some.inj Ag)
      obtain ⟨rfl,rfl⟩:=Prod.mk.inj q
      clear hX Ag q HRX wZ
      have cx:W4.cell? ⟨G+1,a,none⟩=some (.int .i64 0):=by rw [Ee.out.m1.VP a ha,hz]
      have ct:W4.cell? ⟨gT,22,none⟩=some (.int .i64 (bump s).pc):=Ap.out.cell 22
      have ft:=Ap.out.fr 22
      clear hz
      go_upto_region 13 with (fail)
      clear ct ft i0 i1 i4 cx
      have FP:=af.mk (Ee.out.far gT 22 (.int .i64 n) Zf)
      have OZ:=af.mk (show Bk _ gT (cellsS { bump s with pc:=n } vO vU) 36 from Ap.out.set 22 (.int .i64 n))
      clear Ee Uu Ap
      change Code.wp _ _ _ _ (W4.setCell ⟨gT,22,none⟩ (.int .i64 n))
      generalize W4.setCell ⟨gT,22,none⟩ (.int .i64 n)=W5 at FP OZ ⊢
      have hs_:=OZ.out
      have tu:=FP.out.m2
      have Ae:=Lib.hid FP.out.mb
      have mO:=HV.out.rd.one { bump s with pc:=n }
      go_wp2_with (first|((with_reducible refine bD (N:=82) rfl ?_);refine wpList_load_row rfl 36 (.tmp 10) rfl gT rfl 36 (cellsS { bump s with pc:=n } vO vU) (0,0) _ hs_ Tryd.underlying36 rfl (by kernel_rfl) ?_)|(skip;refine wpList_store_row rfl 36 (.tmp 4) (.tmp 82) rfl (G+1+1) (cellsS { bump s with pc:=n } vO vU) rfl rfl 36 _ tu (by kernel_rfl) rfl mO ?_))
      (try simp only [Exit.inBlock,Exit.then])
      refine bodyPost_ret (gQ rfl _ _ (G+1+1) 36 _ (0,0) _ rfl (Bk.setRow tu (cellsS { bump s with pc:=n } vO vU)) Tryd.underlying36 rfl (by kernel_rfl)) rfl ?_
      have hb3:=dm (g:=G+2) Ae.out (by omega) (cellsS { bump s with pc:=n } vO vU)
      exact ⟨_,_,rfl,(HV.out.below (by rw [hG];exact hb3)).as rfl rfl,by first|exact hb3|(rw [hG];exact hb3)⟩
    case neg =>
      rw [if_neg hz] at hX
      obtain ⟨rfl,rfl⟩:=Prod.mk.inj (Option.some.inj hX)
      rw [if_pos rfl] at Ag
      obtain ⟨rfl,q⟩:=Prod.mk.inj (Option.some.inj Ag)
      obtain ⟨rfl,rfl⟩:=Prod.mk.inj q
      clear hX Ag q HRX wZ
      have cx:W4.cell? ⟨G+1,a,none⟩=some (.int .i64 (s.x a)):=Ee.out.m1.VP a ha
      have hzb:(s.x a == 0)=false:=beq_eq_false_iff_ne.2 hz
      clear hz
      go_upto_region 13 with (fail)
      clear i0 i1 i4 cx
      have hs_:=Ap.out
      have tu:=Ee.out.m2
      have Ae:=Lib.hid Ee.out.mb
      have mO:=HV.out.rd.one (bump s)
      go_wp2_with (first|((with_reducible refine bD (N:=82) rfl ?_);refine wpList_load_row rfl 36 (.tmp 10) rfl gT rfl 36 (cellsS (bump s) vO vU) (0,0) _ hs_ Tryd.underlying36 rfl (by kernel_rfl) ?_)|(skip;refine wpList_store_row rfl 36 (.tmp 4) (.tmp 82) rfl (G+1+1) (cellsS (bump s) vO vU) rfl rfl 36 _ tu (by kernel_rfl) rfl mO ?_))
      (try simp only [Exit.inBlock,Exit.then])
      refine bodyPost_ret (gQ rfl _ _ (G+1+1) 36 _ (0,0) _ rfl (Bk.setRow tu (cellsS (bump s) vO vU)) Tryd.underlying36 rfl (by kernel_rfl)) rfl ?_
      have hb3:=dm (g:=G+2) Ae.out (by omega) (cellsS (bump s) vO vU)
      exact ⟨_,_,rfl,(HV.out.below (by rw [hG];exact hb3)).as rfl rfl,by first|exact hb3|(rw [hG];exact hb3)⟩
  rw [if_neg h4] at hX
  have n4:((op:Int) == 4)=false:=beq_eq_false_iff_ne.2 (by omega)
  clear h3 h4 i1 i4 HRX wZ
  obtain ⟨⟨u,isU⟩,hU,hX⟩:=Option.bind_eq_some_iff.1 hX
  have HU:=af.mk hU
  have HX:=af.mk hX
  have wZ:=af.mk Ag
  have HVB:=af.mk ((HV.out.below (by rw [hG];exact Ee.out.mb)).as (s':=bump s) rfl rfl)
  have UW:=Ap.out
  have UX:=Uu.out
  go_upto_region 999 with (first|((with_reducible refine bD (N:=84) rfl ?_);refine wpList_load_row rfl 36 (.tmp 10) rfl gT rfl 36 (cellsS (bump s) vO vU) (0,0) _ UW Tryd.underlying36 rfl (by kernel_rfl) ?_)|((with_reducible refine bD (N:=85) rfl ?_);refine wpList_load_row rfl 45 (.tmp 9) rfl gI rfl 45 (#[.int .u8 op,.int .u8 a,.int .u8 bb,.int .u8 cc,.int .i64 n]) (0,0) _ UX Tryd.underlying45 rfl (by kernel_rfl) ?_))
  refine (Et (bump s) u isU vO vU op a bb cc n W4 HVB.out HU.out).mono ?_
  rintro e w5 ⟨AP,AA,rfl,hv1,hb1⟩
  have FP:=af.mk (Ee.out.below hb1)
  have HI6:=af.mk (Uu.out.below hb1)
  have OZ:=af.mk (Ap.out.below hb1)
  obtain ⟨gU,hgg⟩:∃ g,w5.heap.size=g:=⟨_,rfl⟩
  obtain ⟨wx,hxx⟩:∃ x,w5.alloc (.cells #[.int .i64 0,.int .i64 0,.int .i64 0,.int .i64 0,.int .i64 0,.int .i64 0,.int .i64 0,.int .i64 0,.int .i64 0,.int .i64 0,.int .i64 0,.int .i64 0,.int .i64 0,.int .i64 0,.int .i64 0,.int .i64 0,.int .i64 0,.int .i64 0,.int .i64 0,.int .i64 0,.slice none 0 0,.slice none 0 0,.int .i64 0,.int .i64 0] 36)=x:=⟨_,rfl⟩
  have hzz:Bk wx gU #[.int .i64 0,.int .i64 0,.int .i64 0,.int .i64 0,.int .i64 0,.int .i64 0,.int .i64 0,.int .i64 0,.int .i64 0,.int .i64 0,.int .i64 0,.int .i64 0,.int .i64 0,.int .i64 0,.int .i64 0,.int .i64 0,.int .i64 0,.int .i64 0,.int .i64 0,.int .i64 0,.slice none 0 0,.slice none 0 0,.int .i64 0,.int .i64 0] 36:=by rw [← hxx,← hgg];exact Bk.new _ _ _
  have hbx:Below w5.heap.size w5 wx:=by rw [← hxx];exact (Below.refl _ _).alloc (Nat.le_refl _) _
  have U1:G+3≤gU:=by rw [← hgg];exact FP.out.sz
  have U0:gI ≠ gU:=by have:=HI6.out.lt;omega
  have UZ:gT ≠ gU:=by have:=OZ.out.lt;omega
  have hone:=hv1.rd.one u
  have uH:=Lib.hid hbx
  have KJ:=Lib.hid hv1
  clear hv1 hb1 hbx UW UX Ee Uu Ap
  cases isU with
  | true =>
    have hX2:=HX.out
    rw [if_pos rfl] at hX2
    obtain ⟨rfl,rfl⟩:=Prod.mk.inj (Option.some.inj hX2)
    have hF2:=wZ.out
    rw [if_pos rfl] at hF2
    obtain ⟨rfl,q⟩:=Prod.mk.inj (Option.some.inj hF2)
    obtain ⟨rfl,rfl⟩:=Prod.mk.inj q
    clear hX2 hF2 q HX wZ
    go_upto_region 16 with (skip;refine wpList_store_row rfl 36 (.tmp 11) (.tmp 87) rfl gU (cellsS u AP AA) rfl rfl 36 _ hzz (by kernel_rfl) rfl hone ?_)
    have D6:=af.mk ((KJ.out.below uH.out).keep (Keep.setRow hzz (cellsS u AP AA)))
    have Me:=af.mk ((FP.out.below uH.out).fK gU (cellsS u AP AA) U1)
    have Yq:=af.mk ((HI6.out.below uH.out).fK (h:=gU) (cellsS u AP AA) U0)
    have Yn:=af.mk ((OZ.out.below uH.out).fK (h:=gU) (cellsS u AP AA) UZ)
    have FO:=af.mk (hzz.setRow (cellsS u AP AA))
    clear KJ uH hzz hone hxx hgg FP HI6 OZ
    change Code.wp _ _ _ _ (wx.setRow gU (cellsS u AP AA))
    generalize wx.setRow gU (cellsS u AP AA)=W5 at D6 Me Yq Yn FO ⊢
    have hs_:=FO.out
    have tu:=Me.out.m2
    have Ae:=Lib.hid Me.out.mb
    have mO:=D6.out.rd.one u
    go_wp2_with (first|((with_reducible refine bD (N:=90) rfl ?_);refine wpList_load_row rfl 36 (.tmp 11) rfl gU rfl 36 (cellsS u AP AA) (0,0) _ hs_ Tryd.underlying36 rfl (by kernel_rfl) ?_)|(skip;refine wpList_store_row rfl 36 (.tmp 4) (.tmp 90) rfl (G+1+1) (cellsS u AP AA) rfl rfl 36 _ tu (by kernel_rfl) rfl mO ?_))
    (try simp only [Exit.inBlock,Exit.then])
    refine bodyPost_ret (gQ rfl _ _ (G+1+1) 36 _ (0,0) _ rfl (Bk.setRow tu (cellsS u AP AA)) Tryd.underlying36 rfl (by kernel_rfl)) rfl ?_
    have hb3:=dm (g:=G+2) Ae.out (by omega) (cellsS u AP AA)
    exact ⟨_,_,rfl,D6.out.keep (Keep.setRow tu _),by first|exact hb3|(rw [hG];exact hb3)⟩
  | false =>
  have hX2:=HX.out
  rw [if_neg (by simp)] at hX2
  obtain ⟨⟨v,isV⟩,hV,hX3⟩:=Option.bind_eq_some_iff.1 hX2
  have HPV:=af.mk hV
  replace HX:=af.mk hX3
  clear hX2 hV hX3
  go_upto_region 17 with (skip;refine wpList_store_row rfl 36 (.tmp 11) (.tmp 87) rfl gU (cellsS u AP AA) rfl rfl 36 _ hzz (by kernel_rfl) rfl hone ?_)
  have D6:=af.mk ((KJ.out.below uH.out).keep (Keep.setRow hzz (cellsS u AP AA)))
  have Me:=af.mk ((FP.out.below uH.out).fK gU (cellsS u AP AA) U1)
  have Yq:=af.mk ((HI6.out.below uH.out).fK (h:=gU) (cellsS u AP AA) U0)
  have Yn:=af.mk ((OZ.out.below uH.out).fK (h:=gU) (cellsS u AP AA) UZ)
  have FO:=af.mk (hzz.setRow (cellsS u AP AA))
  clear KJ uH hzz hone hxx hgg FP HI6 OZ
  change Code.wp _ _ _ _ (wx.setRow gU (cellsS u AP AA))
  generalize wx.setRow gU (cellsS u AP AA)=W5 at D6 Me Yq Yn FO ⊢
  clear D6 FO
  have p0:W5.cell? ⟨G,0,none⟩=some (.slice A0 l0.length c0):=Me.out.m0.cell 0
  have p1:W5.cell? ⟨G,1,none⟩=some (.string a1):=Me.out.m0.cell 1
  have p2:W5.cell? ⟨G,2,none⟩=some (.string a2):=Me.out.m0.cell 2
  have p3:W5.cell? ⟨G,3,none⟩=some (.slice (some ad) l3.length c3):=Me.out.m0.cell 3
  have hbw:Below w.heap.size w W5:=by rw [hG];exact Me.out.mb
  have HVP:=af.mk ((HV.out.below hbw).as (s':=bump s) rfl rfl)
  have aaj:=af.mk (Kd.bQ HR0.out hbw)
  have aai:=af.mk (Kd.bQ HR3.out hbw)
  clear hbw
  have UW:=Yn.out
  have UX:=Yq.out
  go_upto_region 999 with (first|((with_reducible refine bD (N:=93) rfl ?_);refine wpList_load_row rfl 36 (.tmp 10) rfl gT rfl 36 (cellsS (bump s) vO vU) (0,0) _ UW Tryd.underlying36 rfl (by kernel_rfl) ?_)|((with_reducible refine bD (N:=94) rfl ?_);refine wpList_load_row rfl 45 (.tmp 9) rfl gI rfl 45 (#[.int .u8 op,.int .u8 a,.int .u8 bb,.int .u8 cc,.int .i64 n]) (0,0) _ UX Tryd.underlying45 rfl (by kernel_rfl) ?_))
  refine (BQ k A0 c0 l0 a1 a2 (some ad) c3 l3 (bump s) v isV vO vU op a bb cc n W5 aaj.out hc0 aai.out hc3 HVP.out HPV.out).mono ?_
  rintro e w6 ⟨AL,Az,rfl,hv1,hb1⟩
  have VG:=af.mk (Me.out.below hb1)
  have HI8:=af.mk (Yq.out.below hb1)
  have VE:=af.mk (Yn.out.below hb1)
  obtain ⟨gV,hgg⟩:∃ g,w6.heap.size=g:=⟨_,rfl⟩
  obtain ⟨Ya,hxx⟩:∃ x,w6.alloc (.cells #[.int .i64 0,.int .i64 0,.int .i64 0,.int .i64 0,.int .i64 0,.int .i64 0,.int .i64 0,.int .i64 0,.int .i64 0,.int .i64 0,.int .i64 0,.int .i64 0,.int .i64 0,.int .i64 0,.int .i64 0,.int .i64 0,.int .i64 0,.int .i64 0,.int .i64 0,.int .i64 0,.slice none 0 0,.slice none 0 0,.int .i64 0,.int .i64 0] 36)=x:=⟨_,rfl⟩
  have hzz:Bk Ya gV #[.int .i64 0,.int .i64 0,.int .i64 0,.int .i64 0,.int .i64 0,.int .i64 0,.int .i64 0,.int .i64 0,.int .i64 0,.int .i64 0,.int .i64 0,.int .i64 0,.int .i64 0,.int .i64 0,.int .i64 0,.int .i64 0,.int .i64 0,.int .i64 0,.int .i64 0,.int .i64 0,.slice none 0 0,.slice none 0 0,.int .i64 0,.int .i64 0] 36:=by rw [← hxx,← hgg];exact Bk.new _ _ _
  have hbx:Below w6.heap.size w6 Ya:=by rw [← hxx];exact (Below.refl _ _).alloc (Nat.le_refl _) _
  have U1:G+3≤gV:=by rw [← hgg];exact VG.out.sz
  have U0:gI ≠ gV:=by have:=HI8.out.lt;omega
  have UZ:gT ≠ gV:=by have:=VE.out.lt;omega
  have hone:=hv1.rd.one v
  have uH:=Lib.hid hbx
  have KJ:=Lib.hid hv1
  clear hv1 hb1 hbx UW UX Me Yq Yn
  clear p0 p1 p2 p3 HVP aaj aai HPV
  cases isV with
  | true =>
    have hX2:=HX.out
    rw [if_pos rfl] at hX2
    obtain ⟨rfl,rfl⟩:=Prod.mk.inj (Option.some.inj hX2)
    have hF2:=wZ.out
    rw [if_pos rfl] at hF2
    obtain ⟨rfl,q⟩:=Prod.mk.inj (Option.some.inj hF2)
    obtain ⟨rfl,rfl⟩:=Prod.mk.inj q
    clear hX2 hF2 q HX wZ
    go_upto_region 19 with (skip;refine wpList_store_row rfl 36 (.tmp 13) (.tmp 96) rfl gV (cellsS v AL Az) rfl rfl 36 _ hzz (by kernel_rfl) rfl hone ?_)
    have D6:=af.mk ((KJ.out.below uH.out).keep (Keep.setRow hzz (cellsS v AL Az)))
    have O7:=af.mk ((VG.out.below uH.out).fK gV (cellsS v AL Az) U1)
    have Yp:=af.mk ((HI8.out.below uH.out).fK (h:=gV) (cellsS v AL Az) U0)
    have Ym:=af.mk ((VE.out.below uH.out).fK (h:=gV) (cellsS v AL Az) UZ)
    have FO:=af.mk (hzz.setRow (cellsS v AL Az))
    clear KJ uH hzz hone hxx hgg VG HI8 VE
    change Code.wp _ _ _ _ (Ya.setRow gV (cellsS v AL Az))
    generalize Ya.setRow gV (cellsS v AL Az)=W6 at D6 O7 Yp Ym FO ⊢
    have hs_:=FO.out
    have tu:=O7.out.m2
    have Ae:=Lib.hid O7.out.mb
    have mO:=D6.out.rd.one v
    go_wp2_with (first|((with_reducible refine bD (N:=99) rfl ?_);refine wpList_load_row rfl 36 (.tmp 13) rfl gV rfl 36 (cellsS v AL Az) (0,0) _ hs_ Tryd.underlying36 rfl (by kernel_rfl) ?_)|(skip;refine wpList_store_row rfl 36 (.tmp 4) (.tmp 99) rfl (G+1+1) (cellsS v AL Az) rfl rfl 36 _ tu (by kernel_rfl) rfl mO ?_))
    (try simp only [Exit.inBlock,Exit.then])
    refine bodyPost_ret (gQ rfl _ _ (G+1+1) 36 _ (0,0) _ rfl (Bk.setRow tu (cellsS v AL Az)) Tryd.underlying36 rfl (by kernel_rfl)) rfl ?_
    have hb3:=dm (g:=G+2) Ae.out (by omega) (cellsS v AL Az)
    exact ⟨_,_,rfl,D6.out.keep (Keep.setRow tu _),by first|exact hb3|(rw [hG];exact hb3)⟩
  | false =>
  have hX2:=HX.out
  rw [if_neg (by simp)] at hX2
  replace HX:=af.mk hX2
  clear hX2
  go_upto_region 20 with (skip;refine wpList_store_row rfl 36 (.tmp 13) (.tmp 96) rfl gV (cellsS v AL Az) rfl rfl 36 _ hzz (by kernel_rfl) rfl hone ?_)
  have D6:=af.mk ((KJ.out.below uH.out).keep (Keep.setRow hzz (cellsS v AL Az)))
  have O7:=af.mk ((VG.out.below uH.out).fK gV (cellsS v AL Az) U1)
  have Yp:=af.mk ((HI8.out.below uH.out).fK (h:=gV) (cellsS v AL Az) U0)
  have Ym:=af.mk ((VE.out.below uH.out).fK (h:=gV) (cellsS v AL Az) UZ)
  have FO:=af.mk (hzz.setRow (cellsS v AL Az))
  clear KJ uH hzz hone hxx hgg VG HI8 VE
  change Code.wp _ _ _ _ (Ya.setRow gV (cellsS v AL Az))
  generalize Ya.setRow gV (cellsS v AL Az)=W6 at D6 O7 Yp Ym FO ⊢
  clear D6 FO
  have hbw:Below w.heap.size w W6:=by rw [hG];exact O7.out.mb
  have HVP:=af.mk ((HV.out.below hbw).as (s':=bump s) rfl rfl)
  clear hbw
  have UW:=Ym.out
  have UX:=Yp.out
  go_upto_region 999 with (first|((with_reducible refine bD (N:=101) rfl ?_);refine wpList_load_row rfl 36 (.tmp 10) rfl gT rfl 36 (cellsS (bump s) vO vU) (0,0) _ UW Tryd.underlying36 rfl (by kernel_rfl) ?_)|((with_reducible refine bD (N:=102) rfl ?_);refine wpList_load_row rfl 45 (.tmp 9) rfl gI rfl 45 (#[.int .u8 op,.int .u8 a,.int .u8 bb,.int .u8 cc,.int .i64 n]) (0,0) _ UX Tryd.underlying45 rfl (by kernel_rfl) ?_))
  refine (Gx (bump s) s5 e5 vO vU op a bb cc n W6 HVP.out hsm.each HX.out).mono ?_
  rintro e w7 ⟨AB,Aw,rfl,hv1,hb1⟩
  have O8:=af.mk (O7.out.below hb1)
  have O5:=af.mk (Yp.out.below hb1)
  have O0:=af.mk (Ym.out.below hb1)
  obtain ⟨gM,hgg⟩:∃ g,w7.heap.size=g:=⟨_,rfl⟩
  obtain ⟨X9,hxx⟩:∃ x,w7.alloc (.cells #[.int .i64 0,.int .i64 0,.int .i64 0,.int .i64 0,.int .i64 0,.int .i64 0,.int .i64 0,.int .i64 0,.int .i64 0,.int .i64 0,.int .i64 0,.int .i64 0,.int .i64 0,.int .i64 0,.int .i64 0,.int .i64 0,.int .i64 0,.int .i64 0,.int .i64 0,.int .i64 0,.slice none 0 0,.slice none 0 0,.int .i64 0,.int .i64 0] 36)=x:=⟨_,rfl⟩
  have hzz:Bk X9 gM #[.int .i64 0,.int .i64 0,.int .i64 0,.int .i64 0,.int .i64 0,.int .i64 0,.int .i64 0,.int .i64 0,.int .i64 0,.int .i64 0,.int .i64 0,.int .i64 0,.int .i64 0,.int .i64 0,.int .i64 0,.int .i64 0,.int .i64 0,.int .i64 0,.int .i64 0,.int .i64 0,.slice none 0 0,.slice none 0 0,.int .i64 0,.int .i64 0] 36:=by rw [← hxx,← hgg];exact Bk.new _ _ _
  have hbx:Below w7.heap.size w7 X9:=by rw [← hxx];exact (Below.refl _ _).alloc (Nat.le_refl _) _
  have U1:G+3≤gM:=by rw [← hgg];exact O8.out.sz
  have U0:gI ≠ gM:=by have:=O5.out.lt;omega
  have UZ:gT ≠ gM:=by have:=O0.out.lt;omega
  have hone:=hv1.rd.one s5
  have uH:=Lib.hid hbx
  have KJ:=Lib.hid hv1
  clear hv1 hb1 hbx UW UX O7 Yp Ym
  clear HVP
  have hF2:=wZ.out
  by_cases Yh:e5=0
  case pos =>
    rw [if_pos Yh] at hF2
    obtain ⟨rfl,q⟩:=Prod.mk.inj (Option.some.inj hF2)
    obtain ⟨rfl,rfl⟩:=Prod.mk.inj q
    subst Yh
    clear hF2 q HX wZ
    go_upto_region 23 with (skip;refine wpList_store_row rfl 36 (.tmp 15) (.tmp 104) rfl gM (cellsS s5 AB Aw) rfl rfl 36 _ hzz (by kernel_rfl) rfl hone ?_)
    have D6:=af.mk ((KJ.out.below uH.out).keep (Keep.setRow hzz (cellsS s5 AB Aw)))
    have FC:=af.mk ((O8.out.below uH.out).fK gM (cellsS s5 AB Aw) U1)
    have XW:=af.mk ((O5.out.below uH.out).fK (h:=gM) (cellsS s5 AB Aw) U0)
    have XT:=af.mk ((O0.out.below uH.out).fK (h:=gM) (cellsS s5 AB Aw) UZ)
    have FO:=af.mk (hzz.setRow (cellsS s5 AB Aw))
    clear KJ uH hzz hone hxx hgg O8 O5 O0
    change Code.wp _ _ _ _ (X9.setRow gM (cellsS s5 AB Aw))
    generalize X9.setRow gM (cellsS s5 AB Aw)=W7 at D6 FC XW XT FO ⊢
    have hs_:=FO.out
    have tu:=FC.out.m2
    have Ae:=Lib.hid FC.out.mb
    have mO:=D6.out.rd.one s5
    go_wp2_with (first|((with_reducible refine bD (N:=110) rfl ?_);refine wpList_load_row rfl 36 (.tmp 15) rfl gM rfl 36 (cellsS s5 AB Aw) (0,0) _ hs_ Tryd.underlying36 rfl (by kernel_rfl) ?_)|(skip;refine wpList_store_row rfl 36 (.tmp 4) (.tmp 110) rfl (G+1+1) (cellsS s5 AB Aw) rfl rfl 36 _ tu (by kernel_rfl) rfl mO ?_))
    (try simp only [Exit.inBlock,Exit.then])
    refine bodyPost_ret (gQ rfl _ _ (G+1+1) 36 _ (0,0) _ rfl (Bk.setRow tu (cellsS s5 AB Aw)) Tryd.underlying36 rfl (by kernel_rfl)) rfl ?_
    have hb3:=dm (g:=G+2) Ae.out (by omega) (cellsS s5 AB Aw)
    exact ⟨_,_,rfl,D6.out.keep (Keep.setRow tu _),by first|exact hb3|(rw [hG];exact hb3)⟩
  case neg =>
    have nb:(e5 == 0)=false:=beq_eq_false_iff_ne.2 Yh
    have nb':(e5 != 0)=true:=by simp [Yh]
    rw [if_neg Yh] at hF2
    obtain ⟨rfl,q⟩:=Prod.mk.inj (Option.some.inj hF2)
    obtain ⟨rfl,rfl⟩:=Prod.mk.inj q
    clear hF2 q HX wZ Yh
    go_upto_region 22 with (skip;refine wpList_store_row rfl 36 (.tmp 15) (.tmp 104) rfl gM (cellsS s5 AB Aw) rfl rfl 36 _ hzz (by kernel_rfl) rfl hone ?_)
    have D6:=af.mk ((KJ.out.below uH.out).keep (Keep.setRow hzz (cellsS s5 AB Aw)))
    have FC:=af.mk ((O8.out.below uH.out).fK gM (cellsS s5 AB Aw) U1)
    have XW:=af.mk ((O5.out.below uH.out).fK (h:=gM) (cellsS s5 AB Aw) U0)
    have XT:=af.mk ((O0.out.below uH.out).fK (h:=gM) (cellsS s5 AB Aw) UZ)
    have FO:=af.mk (hzz.setRow (cellsS s5 AB Aw))
    clear KJ uH hzz hone hxx hgg O8 O5 O0
    change Code.wp _ _ _ _ (X9.setRow gM (cellsS s5 AB Aw))
    generalize X9.setRow gM (cellsS s5 AB Aw)=W7 at D6 FC XW XT FO ⊢
    have hs_:=FC.out.m1
    have tu:=FC.out.m2
    have Ae:=Lib.hid FC.out.mb
    have mO:=HV.out.rd.one s
    go_wp2_with (first|((with_reducible refine bD (N:=108) rfl ?_);refine wpList_load_row rfl 36 (.tmp 3) rfl (G+1) rfl 36 (cellsS s vO vU) (0,0) _ hs_ Tryd.underlying36 rfl (by kernel_rfl) ?_)|(skip;refine wpList_store_row rfl 36 (.tmp 4) (.tmp 108) rfl (G+1+1) (cellsS s vO vU) rfl rfl 36 _ tu (by kernel_rfl) rfl mO ?_))
    (try simp only [Exit.inBlock,Exit.then])
    refine bodyPost_ret (gQ rfl _ _ (G+1+1) 36 _ (0,0) _ rfl (Bk.setRow tu (cellsS s vO vU)) Tryd.underlying36 rfl (by kernel_rfl)) rfl ?_
    have hb3:=dm (g:=G+2) Ae.out (by omega) (cellsS s vO vU)
    exact ⟨_,_,rfl,HV.out.below (by first|(rw [hG];exact hb3)|exact hb3),by first|exact hb3|(rw [hG];exact hb3)⟩
end Go.Proofs.YtgfnpdfhdgenbaaDoor.P
end
section
namespace Go.Proofs.YtgfnpdfhdgenbaaDoor.P
open Go.RowKit Go.Proofs.ae.bf Go.Proofs.ae.bY Go.Proofs.ae.cZ
open Classical in
noncomputable def xe (k:Nat) (l0:List ByteArray) (a1 a2:ByteArray) (l3:List gY) (s:St):Option (St × Bool × Int):=if tV s then (au.f k l0 a1 a2 l3).bind fun c=>uw (VY k l0 a1 a2 l3) l3 c.2 s else none
theorem MV {k:Nat} {l0:List ByteArray} {a1 a2:ByteArray} {l3:List gY} {s:St} {r:St × Bool × Int} (h:xe k l0 a1 a2 l3 s=some r):tV s∧∃ e1 e2,au.f k l0 a1 a2 l3=some (e1,e2)∧uw (VY k l0 a1 a2 l3) l3 e2 s=some r:=by
  unfold xe at h
  split at h
  · obtain ⟨⟨e1,e2⟩,h1,h2⟩:=Option.bind_eq_some_iff.1 h
    exact ⟨‹_›,e1,e2,h1,h2⟩
  · cases h
theorem agO (w:World):nK Vw (.slice none 0 0) (.slice none 0 0) w :=
  ⟨⟨none,0,[],rfl,Nat.le_refl _,rfl,fun wF _=>Kd.VL kH wF,fun j hj=>absurd hj (Nat.not_lt_zero j)⟩,none,0,rfl,Nat.le_refl _,fun wF _=>Kd.VL (Kd.int .i64) wF⟩
end Go.Proofs.YtgfnpdfhdgenbaaDoor.P
end
end
section
namespace Go.Proofs.YtgfnpdfhdgenbaaDoor.P
open Go.RowKit Go.Proofs.ae.bf Go.Proofs.ae.bY Go.Proofs.ae.cZ
abbrev Tb:=Nat→Nat→Bool
def uB (X:Tb) (a k:Nat):Tb:=fun a' k'=>(a' == a && k' == k) || X a' k'
def sZ (X:Tb) (a b:Nat):Tb:=fun a' k=>X a' k || (a' == a && X b k)
def uZ (X:Tb) (a b k:Nat):Bool:=(List.range k).any fun j=>X b j && !X a j
def su (n:Nat):List gY→Nat→Tb→Tb
  | [],_,X=>X
  | x :: xs,k,X=>su n xs (k+1) (if x.f0=5∧x.f1 < n then uB X x.f1.toNat k else X)
def kM (n m:Nat):List gY→Bool→Tb→Bool × Tb
  | [],b,X=>(b,X)
  | x :: xs,b,X=>if x.f0=7∧x.f1 < n∧x.f2 < n then kM n m xs (uZ X x.f1.toNat x.f2.toNat m || b) (sZ X x.f1.toNat x.f2.toNat) else kM n m xs b X
def iJ (n m:Nat) (code:List gY):Nat→Tb→Option Tb
  | 0,_=>none
  | k+1,X=>if (kM n m code false X).1=true then iJ n m code k (kM n m code false X).2 else some (kM n m code false X).2
def uK (m:Nat) (f:Nat→Bool):List Bool:=(List.range m).map f
def qN (n m:Nat) (X:Tb):List (List Bool):=(List.range n).map fun a=>uK m (X a)
def UI (x:gY):Bool:=decide (0≤x.f1) && decide (x.f1≤255) && decide (0≤x.f2) && decide (x.f2≤255)
def gJ.f (k:Nat) (t:List ByteArray) (lo gl:ByteArray) (code:List gY):Option (List (List Bool)) :=
  if lo.size≤8∧code.length≤1000∧code.all UI=true then (iJ lo.size (code.length+1) code k (su lo.size code 0 fun _ _=>false)).bind fun X=>some (qN lo.size (code.length+1) X) else none
theorem BJ (n m:Nat) (code:List gY):∀ k X,eu (iJ n m code k X) (iJ n m code (k+1) X):=by
  intro k
  induction k with
  | zero=>intro X;exact eu.none _
  | succ k ih =>
    intro X
    rw [iJ,iJ.eq_2 n m code X (k+1)]
    exact eu.ite (ih _) (eu.refl _)
theorem gJ.mono:∀ a0 a1 a2 a3 k,eu (gJ.f k a0 a1 a2 a3) (gJ.f (k+1) a0 a1 a2 a3):=by
  intro a0 a1 a2 a3 k
  unfold gJ.f
  exact eu.ite (eu.bind (BJ _ _ _ _ _) fun _=>eu.refl _) (eu.none _)
structure sD (w:World) (O r0 n m:Nat) (X:Tb):Prop where
  out:w.rowIs O 40 n fun a=>.slice (some ⟨r0+a,0,none⟩) m m
  row:∀ a,a < n→w.rowIs (r0+a) 4 m fun k=>.bool (X a k)
  lt:O < r0
section
variable {w w':World} {O r0 n m a b k:Nat} {X Y:Tb}
theorem sD.of (h:sD w O r0 n m X) (hb:∀ i,i < w.heap.size→w'.heap[i]? = w.heap[i]?):sD w' O r0 n m X :=
  ⟨h.out.of_block (hb _ h.out.lt),fun a ha=>(h.row a ha).of_block (hb _ (h.row a ha).lt),h.lt⟩
theorem sD.alloc (h:sD w O r0 n m X) (o:Obj):sD (w.alloc o) O r0 n m X:=⟨h.out.alloc o,fun a ha=>(h.row a ha).alloc o,h.lt⟩
theorem sD.drew (h:sD w O r0 n m X):sD w.drew O r0 n m X:=⟨h.out.drew,fun a ha=>(h.row a ha).drew,h.lt⟩
theorem sD.drewN (h:sD w O r0 n m X) (j:Nat):sD (w.drewN j) O r0 n m X:=h.of fun _ _=>rfl
theorem sD.congr (h:sD w O r0 n m X) (e:∀ a k,a < n→k < m→X a k=Y a k):sD w O r0 n m Y :=
  ⟨h.out,fun a ha=>(h.row a ha).congr fun k hk=>by rw [e a k ha hk],h.lt⟩
theorem sD.mark (h:sD w O r0 n m X) (ha:a < n):sD (w.setCell ⟨r0+a,k,none⟩ (.bool true)) O r0 n m (uB X a k):=by
  refine ⟨h.out.setOther (by show O ≠ r0+a;have:=h.lt;omega) _,fun a' ha'=>?_,h.lt⟩
  by_cases e:a'=a
  · subst e
    refine ((h.row a' ha').set k (.bool true)).congr fun j hj=>?_
    by_cases ej:j=k
    · subst ej
      simp [uB]
    · simp [uB,ej]
  · refine ((h.row a' ha').setOther (by show r0+a' ≠ r0+a;omega) _).congr fun j hj=>?_
    simp [uB,e]
theorem AY {t:TypeId} {f:Nat→Value} (h:w.rowIs b t n f) {base:Nat} (hb:base≤b) (hn:n≤maxLen):w.ownsRow base t 1 (.slice (some ⟨b,0,none⟩) n n) n ((List.range n).map f):=by
  obtain ⟨c,hc,hs,hf⟩:=h
  refine ⟨by simp,.inr ⟨b,n,c,rfl,hb,hc,Nat.le_refl _,hn,by omega,?_⟩⟩
  apply List.ext_getElem?
  intro i
  rw [List.getElem?_take,List.getElem?_map]
  by_cases hi:i < n
  · rw [if_pos (by omega),List.getElem?_range hi]
    show c.toList[i]? = some (f i)
    rw [Array.getElem?_toList]
    exact hf i hi
  · rw [if_neg (by omega),List.getElem?_eq_none (by simp;omega)]
    rfl
theorem sD.S {base:Nat} (h:sD w O r0 n m X) (hb:base≤O) (hn:n≤maxLen) (hm:m≤maxLen):Kd.S (Kd.slice 4 Kd.bool) 40 w base (fun _=>True) (.slice (some ⟨O,0,none⟩) n n) (qN n m X):=by
  have hl:(qN n m X).zipIdx.length=n:=by simp [qN]
  refine ⟨fun k=>k - r0,fun _ _=>trivial,(List.range n).map (fun a=>.slice (some ⟨r0+a,0,none⟩) m m),?_,?_,?_⟩
  · rw [hl]
    exact AY h.out hb hn
  · rw [hl]
    simp [Kd.tag,Kd.slice]
  · intro j p hj
    have hjn:j < n:=by
      have:=(List.getElem?_eq_some_iff.1 hj).1
      omega
    have hp:p=(uK m (X j),j):=by
      have h2:(qN n m X)[j]? = some (uK m (X j)):=by simp [qN,hjn]
      rw [Kd.MK h2] at hj
      exact (Option.some.inj hj).symm
    subst hp
    refine ⟨.slice (some ⟨r0+j,0,none⟩) m m,?_,?_⟩
    · show ((List.drop (j * 1) _).take 1)=_
      rw [Nat.mul_one,List.drop_eq_getElem_cons (by simp;omega)]
      simp
    · have ho:=AY (h.row j hjn) (base:=base) (by have:=h.lt;omega) hm
      have e1:(uK m (X j)).length=m:=by simp [uK]
      have e2:encs Value.bool (uK m (X j))=(List.range m).map (fun k=>Value.bool (X j k)):=by simp [encs,uK]
      refine Kd.Fp (enc:=Value.bool) (by rw [e1,e2];exact ho) ?_
      intro k hk
      obtain rfl:r0+j=k:=by
        have:some (r0+j)=some k:=hk
        exact Option.some.inj this
      refine ⟨⟨trivial,fun e=>?_⟩,by show r0+j - r0=j;omega⟩
      have:r0+j=O:=Option.some.inj e
      have:=h.lt
      omega
end
end Go.Proofs.YtgfnpdfhdgenbaaDoor.P
end
section
namespace Go.Proofs.YtgfnpdfhdgenbaaDoor.P
open Go.RowKit Go.Proofs.ae.bf Go.Proofs.ae.bY Go.Proofs.ae.cZ
attribute [local go_sem ↓] Go.wp_at_zero Go.wp_at_succ
structure Ow (g:Nat) (w w':World):Prop where
  os:w'.os=w.os
  tape:w'.tape=w.tape
  output:w'.output=w.output
  size:w.heap.size≤w'.heap.size
  block:∀ i,i < w.heap.size→i ≠ g→w'.heap[i]? = w.heap[i]?
theorem Ow.refl (g:Nat) (w:World):Ow g w w:=⟨rfl,rfl,rfl,Nat.le_refl _,fun _ _ _=>rfl⟩
theorem Ow.set {g:Nat} {w w':World} (h:Ow g w w') (k:Nat) (u:Value):Ow g w (w'.setCell ⟨g,k,none⟩ u) :=
  ⟨h.os,h.tape,h.output,by have:=h.size;simp only [World.setCell,Array.size_modify];exact this,fun i hi hn=>by rw [Below.heap_setCell _ _ _ _ hn];exact h.block i hi hn⟩
theorem Ow.below {g:Nat} {W w w':World} (h:Ow g w w') (hW:Below W.heap.size W w) (hg:W.heap.size≤g):Below W.heap.size W w' :=
  ⟨h.os.trans hW.os,h.tape.trans hW.tape,h.output.trans hW.output,Nat.le_trans hW.size h.size,fun i hi=>(h.block i (Nat.lt_of_lt_of_le hi hW.size) (by omega)).trans (hW.block i hi)⟩
def qE (X:Tb) (a b k:Nat):Tb:=fun a' j=>X a' j || (a' == a && decide (j < k) && X b j)
theorem Gj (X:Tb) (a b:Nat):qE X a b 0=X:=by
  funext a' j
  simp [qE]
theorem Qi (X:Tb) (a b k:Nat):qE X a b k b k=X b k:=by simp [qE]
theorem Qj (X:Tb) (a b k:Nat):qE X a b k a k=X a k:=by simp [qE]
theorem Gl (X:Tb) (a b k:Nat) (h:(X b k && !X a k)=false):qE X a b (k+1)=qE X a b k:=by
  funext a' j
  unfold qE
  by_cases e:a'=a
  · subst e
    by_cases ej:j=k
    · subst ej
      revert h
      cases X b j <;> cases X a' j <;> simp
    · have:decide (j < k+1)=decide (j < k):=decide_eq_decide.2 (by omega)
      rw [this]
  · have:(a' == a)=false:=by simp [e]
    rw [this]
    simp
theorem Gm (X:Tb) (a b k:Nat) (h:(X b k && !X a k)=true):qE X a b (k+1)=uB (qE X a b k) a k:=by
  funext a' j
  unfold qE uB
  by_cases e:a'=a
  · subst e
    by_cases ej:j=k
    · subst ej
      revert h
      cases X b j <;> simp
    · have:decide (j < k+1)=decide (j < k):=decide_eq_decide.2 (by omega)
      rw [this]
      simp [ej]
  · have:(a' == a)=false:=by simp [e]
    rw [this]
    simp [e]
theorem Gw (X:Tb) (a b k:Nat):uZ X a b (k+1)=(uZ X a b k || (X b k && !X a k)):=by
  unfold uZ
  rw [List.range_succ,List.any_append]
  simp
set_option maxRecDepth 100000 in
set_option maxHeartbeats 1600000 in
theorem Eu (O r0 n m a b:Nat) (X:Tb) (ha:a < n) (hb:b < n) (hm:m≤1001) (w:World) (hM:sD w O r0 n m X) :
    Calls Tryd.prog 16 #[.slice (some ⟨r0+a,0,none⟩) m m,.slice (some ⟨r0+b,0,none⟩) m m] w fun e w'=>e=.returned (.bool (uZ X a b m))∧Ow (r0+a) w w'∧sD w' O r0 n m (sZ X a b):=by
  go_enter Tryd.func16,Tryd.ntmps16
  go_wp2_with fail
  go_loopw [5,10] (fun u i wr=>∃ k:Nat,k≤m∧i=.int .i64 k∧u=.bool (uZ X a b k)∧Ow (r0+a) w wr∧sD wr O r0 n m (qE X a b k)) (fun _ i _=>m - (intOf i).toNat)
  case atStart=>exact ⟨0,Nat.zero_le _,rfl,rfl,Ow.refl _ _,by rw [Gj];exact hM⟩
  case round =>
    clear hM
    obtain ⟨k,hk,rfl,rfl,ho,hM⟩:=hrel
    by_cases hlt:k < m
    rotate_left
    · obtain rfl:k=m:=by omega
      have hlt':decide ((k:Int) < (k:Int))=false:=decide_eq_false (by omega)
      go_wp2
      go_ret
      refine ⟨rfl,ho,hM.congr fun a' j _ hj=>?_⟩
      simp [qE,sZ,hj]
    have hlt':decide ((k:Int) < (m:Int))=true:=decide_eq_true (by omega)
    have cb:wr.cell? ⟨r0+b,k,none⟩=some (.bool (X b k)):=by
      rw [(hM.row b hb).cell hlt,Qi]
    have ca:wr.cell? ⟨r0+a,k,none⟩=some (.bool (X a k)):=by
      rw [(hM.row a ha).cell hlt,Qj]
    have fa:wr.frozen? ⟨r0+a,k,none⟩=false:=(hM.row a ha).frozen k
    have e2:wrap64 ((k:Int)+1)=((k+1:Nat):Int):=by
      unfold wrap64
      omega
    have k0:(0≤(k:Int))=True:=eq_true (by omega)
    have k1:((k:Int) < (m:Int))=True:=eq_true (by omega)
    have hms:m - (k+1) < m - k:=by omega
    have hk1:k+1≤m:=hlt
    have ms:=Gw X a b k
    have ps:=Gl X a b k
    have pm:=Gm X a b k
    have hM2:=hM.mark (k:=k) ha
    have ho2:=ho.set k (.bool true)
    clear hlt
    cases xb:X b k
    · rw [xb] at cb ms ps
      rw [Bool.false_and,Bool.or_false] at ms
      go_wp2
      go_roundw
      case rel=>exact ⟨k+1,hk1,rfl,by rw [ms],ho,by rw [ps (Bool.false_and _)];exact hM⟩
      case measure=>exact hms
    · cases xa:X a k
      · rw [xb] at cb
        rw [xa] at ca
        rw [xb,xa] at ms pm
        rw [show (true && !false)=true from rfl,Bool.or_true] at ms
        go_wp2
        go_roundw
        case rel=>exact ⟨k+1,hk1,rfl,by rw [ms],ho2,by rw [pm rfl];exact hM2⟩
        case measure=>exact hms
      · rw [xb] at cb
        rw [xa] at ca
        rw [xb,xa] at ms ps
        rw [show (true && !true)=false from rfl,Bool.or_false] at ms
        go_wp2
        go_roundw
        case rel=>exact ⟨k+1,hk1,rfl,by rw [ms],ho,by rw [ps rfl];exact hM⟩
        case measure=>exact hms
set_option maxRecDepth 100000 in
theorem l9 (T O n:Nat) (f:Int) (h0:0≤f) (h1:f≤255) (w:World) (hT:w.cell? ⟨T,0,none⟩=some (.slice (some ⟨O,0,none⟩) n n)) :
    Calls Tryd.prog 15 #[.int .u8 f,.pointer (some ⟨T,0,none⟩)] w fun e w'=>e=.returned (.bool (decide (f < (n:Int))))∧w=w':=by
  have e1:wrap64 f=f:=by
    unfold wrap64
    omega
  go_enter Tryd.func15,Tryd.ntmps15
  go_wp2
  go_ret
  exact ⟨rfl,rfl⟩
theorem drop_cons (code:List gY) (i:Nat) (h:i < code.length):code.drop i=aC code (i:Nat) :: code.drop (i+1):=by
  rw [List.drop_eq_getElem_cons h]
  congr 1
  show code[i]=code.getD i z45
  rw [List.getD_eq_getElem?_getD,List.getElem?_eq_getElem h]
  rfl
theorem Np {code:List gY} (h:code.all UI=true) {i:Nat} (hi:i < code.length):0≤(aC code (i:Nat)).f1∧(aC code (i:Nat)).f1≤255∧0≤(aC code (i:Nat)).f2∧(aC code (i:Nat)).f2≤255:=by
  have h1:aC code (i:Nat) ∈ code:=by
    show code.getD i z45 ∈ code
    rw [List.getD_eq_getElem?_getD,List.getElem?_eq_getElem hi]
    exact List.getElem_mem hi
  have:=List.all_eq_true.1 h _ h1
  unfold UI at this
  simp only [Bool.and_eq_true,decide_eq_true_eq] at this
  exact ⟨this.1.1.1,this.1.1.2,this.1.2,this.2⟩
end Go.Proofs.YtgfnpdfhdgenbaaDoor.P
end
