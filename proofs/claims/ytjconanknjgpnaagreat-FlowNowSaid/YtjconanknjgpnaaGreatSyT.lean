/-
  Floats as values: which are nought, which are no numbers.
-/
import Derived.Test.YtjconanknjgpnaaGreatSyR
set_option linter.unusedVariables false
set_option linter.unusedSimpArgs false
namespace Go.Sx
def dk_ (n:Nat):Bool:=decide (9218868437227405312<n%9223372036854775808)
theorem cv_ (n:Nat):(dk_ n=true/\∃s q,Ieee.double.read n=.nan s q)\/(dk_ n=false/\n%9223372036854775808=0/\∃s,Ieee.double.read n=.number s 0 Ieee.double.leastPlace)\/
  (dk_ n=false/\n%9223372036854775808≠0/\((∃s m i,0<m/\Ieee.double.leastPlace<=i/\Ieee.double.read n=.number s m i)\/∃s,Ieee.double.read n=.infinity s)):=by
 have e1:Ieee.double.signWeight=9223372036854775808:=rfl
 have e2:Ieee.double.infRung=9218868437227405312:=rfl
 have e3:Ieee.double.binade=4503599627370496:=rfl
 unfold Ieee.Format.read dk_
 simp only [e1,e2,e3]
 generalize n%9223372036854775808=r
 by_cases h1:r<4503599627370496
 .rw [if_pos h1]
  by_cases h0:r=0
  .subst h0
   exact .inr (.inl ⟨rfl,rfl,_,rfl⟩)
  .exact .inr (.inr ⟨by simp;omega,h0,.inl ⟨_,_,_,by omega,Int.le_refl _,rfl⟩⟩)
 .rw [if_neg h1]
  by_cases h2:r<9218868437227405312
  .rw [if_pos h2]
   exact .inr (.inr ⟨by simp;omega,by omega,.inl ⟨_,_,_,by omega,by omega,rfl⟩⟩)
  .rw [if_neg h2]
   by_cases h3:r=9218868437227405312
   .rw [if_pos h3]
    exact .inr (.inr ⟨by simp;omega,by omega,.inr ⟨_,rfl⟩⟩)
   .rw [if_neg h3]
    exact .inl ⟨by simp;omega,_,_,rfl⟩
theorem jN_ (s:Bool) (up:Nat):Ieee.signed s 0 up=0:=by
 unfold Ieee.signed
 have:(0:Nat)<<<up=0:=by rw [Nat.shiftLeft_eq,Nat.zero_mul]
 rw [this]
 split<;>rfl
theorem oc_ (n:Nat):(Ieee.double.order n n==some .eq)= !dk_ n:=by
 unfold Ieee.Format.order
 rcases cv_ n with ⟨h,s,q,e⟩|⟨h,_,s,e⟩|⟨h,_,⟨s,m,i,hm,hi,e⟩|⟨s,e⟩⟩
 .rw [e,h];simp [Ieee.Datum.order]
 .rw [e,h]
  simp only [Ieee.Datum.order,jN_];rfl
 .rw [e,h]
  simp only [Ieee.Datum.order]
  rw [Int.compare_eq_eq.2 rfl];rfl
 .rw [e,h]
  simp only [Ieee.Datum.order]
  cases s<;>rfl
end Go.Sx
