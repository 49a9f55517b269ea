/- The law FnExactPlayWork, for all arguments: its walk behind the plain law. No condition. -/
import Derived.Test.YtfeokehfhaimkaaLawPlay
import Derived.Test.YtfeokehfhaimkaaPlayBoth
import Derived.Test.YtfeokehfhaimkaaHWork
import Derived.Test.YtfeokehfhaimkaaHBool
import Derived.Test.YtfeokehfhaimkaaHIntentStep
open Nat renaming zero_le→bp
namespace Go.Proofs.Ytfeokehfhaimkaa.Q
open Go.RowKit Go.Proofs.YtfeokehfhaimkaaW.PrintWords Go.Proofs.Ytfeokehfhaimkaa.G
set_option linter.unusedVariables false
set_option linter.unusedSimpArgs false
theorem FnExactPlayWork_run(a0:Int)(x:List kE)(o:x.length≤maxLen){A:Option Addr}{c:Nat}(w:World)(hr:Kd.C rj w A x.length x)(hc:x.length≤c):
 Calls Try.prog 3 #[.int .i64 a0,.slice A x.length c] w fun e w'=>e= .returned (.bool true)∧Below w.heap.size w w':=by
 obtain⟨t0,e0,n0⟩:=szIntentStepS_ev x o 1048576 (by omega) (by omega);obtain⟨_,hZ⟩:=Ev.at e0
 by_cases c0:t0<0
 ·exact Uh.early a0 x t0 hZ c0 w hr hc
 obtain⟨_,_,lx⟩:=n0 c0
 have ky:(x.map mB).length≤1048576:=by rw[List.length_map];omega
 obtain⟨kt,hT⟩:=Ev.at (toIntentStepS_ev x (by omega));obtain⟨kei,hEI⟩:=Ev.at (eqIntentStepS_refl (x.map mB) (by omega));obtain⟨JL,y2,em0,_,b0,_,_⟩:=markIntentStepS_ev (x.map mB) 1 (by omega) (by omega);obtain⟨kmi,hMI⟩:=Ev.at em0
 have fin:∀ (G0:Int) (G1 G2:List X_) (G3:Int) (G4:List It) (ds:List Bool) (b:Bool),G1.length≤1000→G2.length≤1000→G4.length≤1000→ds.length≤1048576→
  (∀ (w:World) (A:Option Addr) (c:Nat),Kd.C e5 w A (x.map mB).length (x.map mB)→(x.map mB).length≤c→Calls Try.prog 5 #[.int .i64 a0,.slice A (x.map mB).length c] w fun e w'=>∃v1 v2 v4 v5:Value,e= .returned (.tuple #[.agg #[.int .i64 G0,v1,v2,.int .i64 G3,v4],v5,.bool b])∧Kd.R aT 45 w' w.heap.size (fun k_=>some k_≠v2.ownBlock) v1 G1∧Kd.R aT 45 w' w.heap.size (fun k_=>some k_≠v1.ownBlock) v2 G2∧Kd.R b8 66 w' w.heap.size (fun _=>True) v4 G4∧Kd.R Kd.bool 4 w' w.heap.size (fun _=>True) v5 ds∧Below w.heap.size w w')→
  (∀ (w:World) (A:Option Addr) (c:Nat),Kd.C e5 w A (x.map mB).length (x.map mB)→(x.map mB).length≤c→Calls Try.prog 7 #[.int .i64 a0,.slice A (x.map mB).length c] w fun e w'=>∃v1 v2 v4 v5:Value,e= .returned (.tuple #[.agg #[.int .i64 G0,v1,v2,.int .i64 G3,v4],v5,.bool b])∧Kd.R aT 45 w' w.heap.size (fun k_=>some k_≠v2.ownBlock) v1 G1∧Kd.R aT 45 w' w.heap.size (fun k_=>some k_≠v1.ownBlock) v2 G2∧Kd.R b8 66 w' w.heap.size (fun _=>True) v4 G4∧Kd.R Kd.bool 4 w' w.heap.size (fun _=>True) v5 ds∧Below w.heap.size w w')→
  Calls Try.prog 3 #[.int .i64 a0,.slice A x.length c] w fun e w'=>e= .returned (.bool true)∧Below w.heap.size w w':=by
  intro G0 G1 G2 G3 G4 ds b l1 l2 l4 ld hS hI;obtain⟨ke,hE⟩:=Ev.at (eqWork_refl G0 G1 G2 G3 G4 (by omega) (by omega) (by omega));obtain⟨keb,hEB⟩:=Ev.at (eqBoolS_refl ds (by omega));obtain⟨rk,q1,q2,q4,em,eh,b1,s1,hl1,hl2,hl4⟩:=markWork_ev G0 G1 G2 G3 G4 1 (by omega) (by omega);obtain⟨km,hM⟩:=Ev.at em;obtain⟨kh,hH⟩:=Ev.at eh;obtain⟨xZ,e1,em2,eh2,b2,_,hl5⟩:=markBoolS_ev ds rk (by omega) (by omega);obtain⟨kmb,hMB⟩:=Ev.at em2;obtain⟨khb,hHB⟩:=Ev.at eh2;exact Uh.run kt ke keb kei kmi km kmb kh khb a0 x (x.map mB) y2 G0 G1 G2 G3 G4 ds e1 q1 q2 q4 t0 JL rk xZ b hZ c0 hT hS hI hE hEB hEI hMI (by omega) hM (by omega) hMB (by omega) hH hHB hl1 hl2 hl4 hl5 w hr hc
 obtain⟨kn,h1,h2⟩|⟨kn,h1,h2⟩:=newWork_of a0
 ·exact fin 0 [] [] 0 [] [] false (bp _) (bp _) (bp _) (bp _)
   (fun w A c hr hc=>Jc.bad kn a0 A c _ 0 [] [] 0 [] w hr hc h1)
   (fun w A c hr hc=>Jd.bad a0 A c _ 0 [] [] 0 [] w hr hc h2)
 ·by_cases cl:((x.map mB).length:Int)≤120
  ·obtain⟨R0,R1,R2,R3,R4,ds,s,i,HJ,hl⟩:=Bt (x.map mB) a0 [] [] 1 [] ⟨bp _,bp _,bp _,rfl⟩
   have j1:=HJ.a;have j2:=HJ.b;have j4:=HJ.c;obtain⟨ko,hown⟩:=Ev.at (YG R0 R1 R2 R3 R4 (by omega) (by omega) HJ.d)
   have hd:ds.length≤1048576:=by omega
   exact fin R0 R1 R2 R3 R4 ds true j1 j2 j4 hd
    (fun w A c hr hc=>Jc.run kn ko a0 A c _ a0 [] [] 1 [] R0 R1 R2 R3 R4 R0 R1 R2 R3 R4 ds w hr hc h1 cl s hd hown)
    (fun w A c hr hc=>Jd.run a0 A c _ a0 [] [] 1 [] R0 R1 R2 R3 R4 ds w hr hc h2 cl i hd)
  ·exact fin 0 [] [] 0 [] [] false (bp _) (bp _) (bp _) (bp _)
    (fun w A c hr hc=>Jc.long kn a0 A c _ a0 [] [] 1 [] w hr hc h1 cl)
    (fun w A c hr hc=>Jd.long a0 A c _ a0 [] [] 1 [] w hr hc h2 cl)
end Go.Proofs.Ytfeokehfhaimkaa.Q
