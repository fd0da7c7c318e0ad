/-
  A text of this claim's proof: what stands below is laid by program; no condition.
-/
import Derived.Test.YtipkmkmngcjdbaaGreatDoorTab
namespace Go.Skm.Fig
open Go
abbrev kindL:List PV:=([.str ⟨#[]⟩,.str ⟨#[100,111,116,115]⟩,.str ⟨#[108,105,110,101]⟩,.str ⟨#[108,111,111,112]⟩,.str ⟨#[114,105,110,103]⟩,.str ⟨#[115,112,104,101,114,101]⟩]:List PV)
abbrev planeL:List PV:=([.str ⟨#[120,121]⟩,.str ⟨#[120,122]⟩,.str ⟨#[121,122]⟩]:List PV)
end Go.Skm.Fig

