import Derived.Test.YtfdgbghlanbddaaDoorAvHead0
set_option maxRecDepth 100000
namespace Go.Proofs.YtfdgbghlanbddaaDoor.Av
open Go.Proofs Go.Proofs.YtfdgbghlanbddaaDoor
theorem tl_finals : "finals".toList = ([102, 105, 110, 97, 108, 115].map Char.ofNat) := String.toList_ofList
theorem tl_reflectrows : "reflectrows".toList = ([114, 101, 102, 108, 101, 99, 116, 114, 111, 119, 115].map Char.ofNat) := String.toList_ofList
theorem tl_leanrows : "leanrows".toList = ([108, 101, 97, 110, 114, 111, 119, 115].map Char.ofNat) := String.toList_ofList
theorem tl_onebuild : "onebuild".toList = ([111, 110, 101, 98, 117, 105, 108, 100].map Char.ofNat) := String.toList_ofList
theorem tl_publicsums : "publicsums".toList = ([112, 117, 98, 108, 105, 99, 115, 117, 109, 115].map Char.ofNat) := String.toList_ofList
theorem tl_eqguard : "eqguard".toList = ([101, 113, 103, 117, 97, 114, 100].map Char.ofNat) := String.toList_ofList
theorem tl_ownunsafe : "ownunsafe".toList = ([111, 119, 110, 117, 110, 115, 97, 102, 101].map Char.ofNat) := String.toList_ofList
theorem tl_libbeside : "libbeside".toList = ([108, 105, 98, 98, 101, 115, 105, 100, 101].map Char.ofNat) := String.toList_ofList
theorem tl_ownbeside : "ownbeside".toList = ([111, 119, 110, 98, 101, 115, 105, 100, 101].map Char.ofNat) := String.toList_ofList
theorem tl_reflbeside : "reflbeside".toList = ([114, 101, 102, 108, 98, 101, 115, 105, 100, 101].map Char.ofNat) := String.toList_ofList
theorem tl_aliases : "aliases".toList = ([97, 108, 105, 97, 115, 101, 115].map Char.ofNat) := String.toList_ofList
theorem tl_afterinit : "afterinit".toList = ([97, 102, 116, 101, 114, 105, 110, 105, 116].map Char.ofNat) := String.toList_ofList
theorem tl_crcplain : "crcplain".toList = ([99, 114, 99, 112, 108, 97, 105, 110].map Char.ofNat) := String.toList_ofList
theorem tl_roadunsafe : "roadunsafe".toList = ([114, 111, 97, 100, 117, 110, 115, 97, 102, 101].map Char.ofNat) := String.toList_ofList
theorem tl_fmthandon : "fmthandon".toList = ([102, 109, 116, 104, 97, 110, 100, 111, 110].map Char.ofNat) := String.toList_ofList
theorem tl_harness : "harness".toList = ([104, 97, 114, 110, 101, 115, 115].map Char.ofNat) := String.toList_ofList
theorem tl_ownmain : "ownmain".toList = ([111, 119, 110, 109, 97, 105, 110].map Char.ofNat) := String.toList_ofList
theorem tl_gc : "gc".toList = ([103, 99].map Char.ofNat) := String.toList_ofList
theorem tl_spec : "spec".toList = ([115, 112, 101, 99].map Char.ofNat) := String.toList_ofList
theorem tl_stop : "stop".toList = ([115, 116, 111, 112].map Char.ofNat) := String.toList_ofList
theorem tl_carried : "carried".toList = ([99, 97, 114, 114, 105, 101, 100].map Char.ofNat) := String.toList_ofList
theorem tl_cut : "cut".toList = ([99, 117, 116].map Char.ofNat) := String.toList_ofList
theorem tl_sum : "d8d313f7324173a1e48e18dbbd53aea0b652cc2db0b3cb826d55cdaae13b972b".toList = ([100, 56, 100, 51, 49, 51, 102, 55, 51, 50, 52, 49, 55, 51, 97, 49, 101, 52, 56, 101, 49, 56, 100, 98, 98, 100, 53, 51, 97, 101, 97, 48, 98, 54, 53, 50, 99, 99, 50, 100, 98, 48, 98, 51, 99, 98, 56, 50, 54, 100, 53, 53, 99, 100, 97, 97, 101, 49, 51, 98, 57, 55, 50, 98].map Char.ofNat) := String.toList_ofList
end Go.Proofs.YtfdgbghlanbddaaDoor.Av
