/- FnExactDeviceNew: the words that its texts use, of those that the kit's print writes. -/
